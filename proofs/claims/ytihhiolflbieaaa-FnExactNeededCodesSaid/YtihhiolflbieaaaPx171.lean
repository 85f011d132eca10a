-- Texts of this session's own program (wip/dr.py), which runs the kit's printer.
import Derived.Test.YtihhiolflbieaaaPx0
import Derived.Test.YtihhiolflbieaaaPx5
import Derived.Test.YtihhiolflbieaaaPx73
import Derived.Test.YtihhiolflbieaaaPx75
import Derived.Test.YtihhiolflbieaaaPx164
import Derived.Test.YtihhiolflbieaaaPx169
namespace Go.Proofs.Ytihhiolflbieaaa.P
open Go.RowKit Go.Proofs.YtihhiolflbieaaaW.PrintWords Go.Proofs.YtihhiolflbieaaaW.PrintLast Go.Proofs.YtihhiolflbieaaaW.PrintMore
attribute [local go_sem] max2_int min2_int max_two min_two max_three min_three max_four min_four   -- for this text's walks alone
set_option linter.unusedVariables false
set_option linter.unusedSimpArgs false

/-! ### impl_FirstAround: function 97 -/
mutual
def impl_FirstAround.l0 : Nat → List Int → Int → List (S66) → List (S66) → Int → Int → List Bool → Option ((List (S66)) × Bool)
  | 0, _, _, _, _, _, _, _ => none
  | k + 1, x11, x12, x13, x14, x1316000, x1316001, x1316002 => if 0 ≤ x12 then (if x12 < (x11.length : Int) then (if (rd x11 x12) > 0 then ((impl_field_steps.f k x1316000 x1316001 x1316002 x12).bind fun t1325 => (impl_FirstAround.l1 k x11 x12 x13 x14 t1325 (t1325.length : Int) 0 x1316000 x1316001 x1316002)) else (some (x13, true))) else (none)) else (none)
def impl_FirstAround.l1 : Nat → List Int → Int → List (S66) → List (S66) → List Int → Int → Int → Int → Int → List Bool → Option ((List (S66)) × Bool)
  | 0, _, _, _, _, _, _, _, _, _, _ => none
  | k + 1, x11, x12, x13, x14, x50, x51, x52, x1316000, x1316001, x1316002 => if x52 < x51 then (if 0 ≤ x52 then (if x52 < (x50.length : Int) then (if 0 ≤ (rd x50 x52) then (if (rd x50 x52) < (x11.length : Int) then (if (rd x11 (rd x50 x52)) ≥ 0 then (if 0 ≤ x12 then (if x12 < (x11.length : Int) then (if (rd x11 (rd x50 x52)) < (rd x11 x12) then (if x52 < (x14.length : Int) then (if x13.length < 8796093022208 then (impl_FirstAround.l0 k x11 (rd x50 x52) (x13 ++ [(⟨(rd_T66 x14 x52).f0, (rd_T66 x14 x52).f1⟩ : S66)]) x14 x1316000 x1316001 x1316002) else (none)) else (none)) else (impl_FirstAround.l1 k x11 x12 x13 x14 x50 x51 (wrap64 (x52 + 1)) x1316000 x1316001 x1316002)) else (none)) else (none)) else (impl_FirstAround.l1 k x11 x12 x13 x14 x50 x51 (wrap64 (x52 + 1)) x1316000 x1316001 x1316002)) else (none)) else (none)) else (none)) else (none)) else (impl_FirstAround.l0 k x11 x12 x13 x14 x1316000 x1316001 x1316002)
end
def impl_FirstAround.f (k : Nat) (a0_0 : Int) (a0_1 : Int) (l1 : List ByteArray) (a2 : ByteArray) (a3 : ByteArray) : Option ((List (S66)) × Bool) := (impl_areLive.f k a0_0 a0_1 l1 (([a2, a3] : List ByteArray))).bind fun t1306 => (if t1306 = true then ((impl_farOf.f k a0_0 a0_1 l1 a3).bind fun bt1307 => ((impl_Lock_number.f k a0_0 a0_1 a2).bind fun t1316 => ((impl_turns.f k a0_0).bind fun t1320 => (if 0 ≤ t1316 then (if t1316 < (bt1307.2.2.2.length : Int) then (if (rd bt1307.2.2.2 t1316) < 0 then (some (([] : List (S66)), false)) else (impl_FirstAround.l0 k bt1307.2.2.2 t1316 (([] : List (S66))) t1320 bt1307.1 bt1307.2.1 bt1307.2.2.1)) else (none)) else (none))))) else (some (([] : List (S66)), false)))
theorem impl_FirstAround.mono_l : ∀ k, (∀ y0 y1 y2 y3 y4 y5 y6, LeO (impl_FirstAround.l0 k y0 y1 y2 y3 y4 y5 y6) (impl_FirstAround.l0 (k + 1) y0 y1 y2 y3 y4 y5 y6)) ∧ (∀ y0 y1 y2 y3 y4 y5 y6 y7 y8 y9, LeO (impl_FirstAround.l1 k y0 y1 y2 y3 y4 y5 y6 y7 y8 y9) (impl_FirstAround.l1 (k + 1) y0 y1 y2 y3 y4 y5 y6 y7 y8 y9))
  | 0 => ⟨fun _ _ _ _ _ _ _ r h => by simp [impl_FirstAround.l0] at h, fun _ _ _ _ _ _ _ _ _ _ r h => by simp [impl_FirstAround.l1] at h⟩
  | k + 1 => by
    obtain ⟨ih0, ih1⟩ := impl_FirstAround.mono_l k
    refine ⟨?_, ?_⟩
    rotate_left
    · intro y0 y1 y2 y3 y4 y5 y6 y7 y8 y9
      unfold impl_FirstAround.l1
      repeat' first
      | (with_reducible exact ih0 _ _ _ _ _ _ _)
      | (with_reducible exact ih1 _ _ _ _ _ _ _ _ _ _)
      | (with_reducible exact impl_Lock_number.mono _ _ _ _)
      | (with_reducible exact impl_areLive.mono _ _ _ _ _)
      | (with_reducible exact impl_farOf.mono _ _ _ _ _)
      | (with_reducible exact impl_field_steps.mono _ _ _ _ _)
      | (with_reducible exact impl_turns.mono _ _)
      | (with_reducible exact LeO.refl _)
      | (with_reducible exact LeO.none _)
      | (with_reducible refine LeO.ite ?_ ?_)
      | (with_reducible refine LeO.bind ?_ (fun _ => ?_))
      | exact ih0 _ _ _ _ _ _ _
      | exact ih1 _ _ _ _ _ _ _ _ _ _
      | exact impl_Lock_number.mono _ _ _ _
      | exact impl_areLive.mono _ _ _ _ _
      | exact impl_farOf.mono _ _ _ _ _
      | exact impl_field_steps.mono _ _ _ _ _
      | exact impl_turns.mono _ _
      | exact LeO.none _
      | refine LeO.ite ?_ ?_
      | refine LeO.bind ?_ (fun _ => ?_)
    intro y0 y1 y2 y3 y4 y5 y6
    unfold impl_FirstAround.l0
    repeat' first
    | (with_reducible exact ih0 _ _ _ _ _ _ _)
    | (with_reducible exact ih1 _ _ _ _ _ _ _ _ _ _)
    | (with_reducible exact impl_Lock_number.mono _ _ _ _)
    | (with_reducible exact impl_areLive.mono _ _ _ _ _)
    | (with_reducible exact impl_farOf.mono _ _ _ _ _)
    | (with_reducible exact impl_field_steps.mono _ _ _ _ _)
    | (with_reducible exact impl_turns.mono _ _)
    | (with_reducible exact LeO.refl _)
    | (with_reducible exact LeO.none _)
    | (with_reducible refine LeO.ite ?_ ?_)
    | (with_reducible refine LeO.bind ?_ (fun _ => ?_))
    | exact ih0 _ _ _ _ _ _ _
    | exact ih1 _ _ _ _ _ _ _ _ _ _
    | exact impl_Lock_number.mono _ _ _ _
    | exact impl_areLive.mono _ _ _ _ _
    | exact impl_farOf.mono _ _ _ _ _
    | exact impl_field_steps.mono _ _ _ _ _
    | exact impl_turns.mono _ _
    | exact LeO.none _
    | refine LeO.ite ?_ ?_
    | refine LeO.bind ?_ (fun _ => ?_)
theorem impl_FirstAround.mono : ∀ a0 a1 a2 a3 a4 k, LeO (impl_FirstAround.f k a0 a1 a2 a3 a4) (impl_FirstAround.f (k + 1) a0 a1 a2 a3 a4) := by
  intro a0 a1 a2 a3 a4 k
  obtain ⟨ih0, ih1⟩ := impl_FirstAround.mono_l k
  unfold impl_FirstAround.f
  repeat' first
      | (with_reducible exact ih0 _ _ _ _ _ _ _)
      | (with_reducible exact ih1 _ _ _ _ _ _ _ _ _ _)
      | (with_reducible exact impl_Lock_number.mono _ _ _ _)
      | (with_reducible exact impl_areLive.mono _ _ _ _ _)
      | (with_reducible exact impl_farOf.mono _ _ _ _ _)
      | (with_reducible exact impl_field_steps.mono _ _ _ _ _)
      | (with_reducible exact impl_turns.mono _ _)
      | (with_reducible exact LeO.refl _)
      | (with_reducible exact LeO.none _)
      | (with_reducible refine LeO.ite ?_ ?_)
      | (with_reducible refine LeO.bind ?_ (fun _ => ?_))
      | exact ih0 _ _ _ _ _ _ _
      | exact ih1 _ _ _ _ _ _ _ _ _ _
      | exact impl_Lock_number.mono _ _ _ _
      | exact impl_areLive.mono _ _ _ _ _
      | exact impl_farOf.mono _ _ _ _ _
      | exact impl_field_steps.mono _ _ _ _ _
      | exact impl_turns.mono _ _
      | exact LeO.none _
      | refine LeO.ite ?_ ?_
      | refine LeO.bind ?_ (fun _ => ?_)
def impl_FirstAround.T4 : Bool × List (List Nat × List Nat) := (true, [([], []), ([], []), ([0, 1], [0, 1]), ([], []), ([], []), ([4], [4]), ([5, 2], [5]), ([2, 6, 0, 1, 2], [2]), ([3, 7, 0, 1, 2, 3, 7], [3]), ([6, 8, 0, 1, 2, 3, 4, 5, 6, 7, 8], [6])])
def impl_FirstAround.B4 : List Nat := [0, 0, 3, 0, 0, 16, 55, 119, 255, 511]
theorem impl_FirstAround.tab4 : rtab .any (opsOf Try.f97 4) = impl_FirstAround.T4 := by kernel_rfl
theorem impl_FirstAround.bits4 : waitsOk impl_FirstAround.T4.2 impl_FirstAround.B4 = true := by kernel_rfl
def impl_FirstAround.T11 : Bool × List (List Nat × List Nat) := (true, [([], []), ([], []), ([0, 1], [0, 1]), ([2], [2]), ([3], [3]), ([4], [4]), ([5], [5]), ([5], [5]), ([6, 7, 5], [5, 6, 7]), ([8, 5], [5, 8]), ([5], [5]), ([5], [5]), ([10, 11, 5], [5, 10, 11]), ([12, 5], [5, 12]), ([9, 13, 5], [5, 9, 13]), ([5, 14], [5, 14])])
def impl_FirstAround.B11 : List Nat := [0, 0, 3, 7, 15, 31, 63, 63, 255, 511, 63, 63, 3135, 7231, 16383, 32767]
theorem impl_FirstAround.tab11 : rtab .any (opsOf Try.f97 11) = impl_FirstAround.T11 := by kernel_rfl
theorem impl_FirstAround.bits11 : waitsOk impl_FirstAround.T11.2 impl_FirstAround.B11 = true := by kernel_rfl
set_option maxHeartbeats 8000000 in
set_option maxRecDepth 100000 in
theorem impl_FirstAround.calls (k : Nat) (a0_0 : Int) (a0_1 : Int) (A1 : Option Addr) (c1 : Nat) (l1 : List ByteArray) (a2 : ByteArray) (a3 : ByteArray) (r1 : List (S66)) (r2 : Bool) (w : World) (hr1 : Kd.C Kd.string w A1 l1.length l1) (hc1 : l1.length ≤ c1) (h : impl_FirstAround.f k a0_0 a0_1 l1 a2 a3 = some (r1, r2)) :
    Calls Try.prog 97 #[.agg #[.int .i64 a0_0, .int .i64 a0_1], .slice A1 l1.length c1, .string a2, .string a3] w fun e w' => ∃ v0_ : Value, e = .returned (.tuple #[v0_, .bool r2]) ∧ Kd.R k66 66 w' w.heap.size (fun _ => True) v0_ r1 ∧ Below w.heap.size w w' := by
  have hu28 := Try.underlying28
  have hu105 := Try.underlying105
  have hu66 := Try.underlying66
  have HR1 := Aside0.mk hr1
  have HC1 := Aside0.mk hc1
  clear hr1 hc1
  have HB := Aside0.mk (Below.refl w.heap.size w)
  have H : ((impl_areLive.f k a0_0 a0_1 l1 (([a2, a3] : List ByteArray))).bind fun t1306 => (if t1306 = true then ((impl_farOf.f k a0_0 a0_1 l1 a3).bind fun bt1307 => ((impl_Lock_number.f k a0_0 a0_1 a2).bind fun t1316 => ((impl_turns.f k a0_0).bind fun t1320 => (if 0 ≤ t1316 then (if t1316 < (bt1307.2.2.2.length : Int) then (if (rd bt1307.2.2.2 t1316) < 0 then (some (([] : List (S66)), false)) else (impl_FirstAround.l0 k bt1307.2.2.2 t1316 (([] : List (S66))) t1320 bt1307.1 bt1307.2.1 bt1307.2.2.1)) else (none)) else (none))))) else (some (([] : List (S66)), false)))) = some (r1, r2) := h
  clear h
  obtain ⟨y1303, hy1303⟩ : ∃ y_ : List ByteArray, y_ = (([a2, a3] : List ByteArray)) := ⟨_, rfl⟩
  replace H : ((impl_areLive.f k a0_0 a0_1 l1 y1303).bind fun t1306 => (if t1306 = true then ((impl_farOf.f k a0_0 a0_1 l1 a3).bind fun bt1307 => ((impl_Lock_number.f k a0_0 a0_1 a2).bind fun t1316 => ((impl_turns.f k a0_0).bind fun t1320 => (if 0 ≤ t1316 then (if t1316 < (bt1307.2.2.2.length : Int) then (if (rd bt1307.2.2.2 t1316) < 0 then (some (([] : List (S66)), false)) else (impl_FirstAround.l0 k bt1307.2.2.2 t1316 (([] : List (S66))) t1320 bt1307.1 bt1307.2.1 bt1307.2.2.1)) else (none)) else (none))))) else (some (([] : List (S66)), false)))) = some (r1, r2) := by first | (rw [hy1303]; with_reducible exact H) | (have H2_ := (Option.bind_some _ _).symm.trans H; rw [hy1303]; with_reducible exact H2_) | (have H2_ := (Option.bind_some _ _).symm.trans H; with_reducible exact H2_) | with_reducible exact H | (rw [hy1303]; exact H) | exact H
  have Ny1303 := Aside0.mk hy1303
  clear hy1303
  replace H := Option.bind_eq_some_iff.mp H
  obtain ⟨t1306, A50, H⟩ := H
  try dsimp only at H
  have A5 := Aside0.mk A50
  clear A50
  by_cases c6 : t1306 = true
  rotate_left
  · replace c6 := Bool.eq_false_iff.mpr c6
    subst c6
    rw [if_neg (show ¬ (false = true) by decide)] at H
    simp only [Option.some.injEq, Prod.mk.injEq] at H
    obtain ⟨rfl, rfl⟩ := H
    go_enter Try.func97, Try.ntmps97
    go_wp2_with (first | ((with_reducible refine gate_dst (N := 4) rfl ?_); refine box_event ?hg (N := 4) ?hd (cs := #[.int .i64 a0_0, .int .i64 a0_1]) (t := 28) ?hr ?_; (case hd => rfl); (case hg => rfl); (case hr => first | (go_simp; done) | (go_simp; rfl)); intro gb1302 hg w77 hbox hb; have n0_ := bsx hb HB; have n1_ := Aside0.mk (hbox); have n2_ := gwx hg HB; have n3_ := n2_; clear HB; have HB := n0_; have BK1302 := n1_; have GW1302 := n2_; have GE1302 := n3_; clear n0_ n1_ n2_ n3_; clear hb hbox hg; have hcz78_0 := cz0 BK1302; have hcz78_1 := cz1 BK1302; have hfz78_0 := blk_frozen BK1302.out 0; have hfz78_1 := blk_frozen BK1302.out 1) | ((with_reducible refine gate_dst (N := 21) rfl ?_); refine Kd.R_lit Kd.string _ 9 ?hg (N := 21) ?hd (xs := ([a2, a3] : List ByteArray)) (inner := [.string a2, .string a3]) (ok := fun _ => True) (okp := fun _ => True) ?hr ?hp (fun _ hk => hk) trivial (Below.refl _ _) (Nat.le_refl _) (by simp) ?_; (case hd => rfl); (case hg => rfl); (case hr => first | (go_simp; done) | (go_simp; rfl)); (case hp => exact (Reps.one (show Kd.M Kd.string _ _ _ a2 [.string a2] from rfl) (Reps.one (show Kd.M Kd.string _ _ _ a3 [.string a3] from rfl) (Reps.none _ _)))); intro v1304 w79 ho80 hb hg_ hnew_; clear hg_ hnew_; (first | rw [← Ny1303.out] at ho80 | (simp only [Int.reduceToNat] at ho80; rw [← Ny1303.out] at ho80)); have n0_ := Aside0.mk (Kd.R_lower ho80 (below_size (bB HB))); replace BK1302 := bbx hb BK1302; have n2_ := bsx hb HB; clear HB; have HO1305 := n0_; have HB := n2_; clear n0_ n2_; clear hb ho80; obtain ⟨Ao81, co81, eo81⟩ := Kd.R_slice HO1305.out; subst eo81) | ((with_reducible refine gate_callee (f := 87) rfl ?_); refine goesL_ (some 22) rfl rfl Try.func87 (by kernel_rfl) rfl #[.agg #[.int .i64 a0_0, .int .i64 a0_1], .slice A1 l1.length c1, .slice Ao81 y1303.length co81] rfl (by (try simp only [m_1, m_2, m_3]); first | done | rfl | (simp only [m_4, m_5]; rfl)) ?_; (with_reducible refine (impl_areLive.calls k a0_0 a0_1 _ _ l1 _ _ y1303 false _ ?side1 ?side2 ?side3 ?side4 A5.out).mono ?_); (case side1 => repeat (first | exact (Kd.C_below HR1.out HB.out) | (with_reducible refine Kd.C_alloc ?_ _) | (with_reducible refine Kd.C_drewN ?_ _) | (with_reducible refine Kd.C_drew ?_))); (case side2 => exact HC1.out); (case side3 => repeat (first | exact (Kd.R_reads' HO1305.out).2.2 | (with_reducible refine Kd.C_alloc ?_ _) | (with_reducible refine Kd.C_drewN ?_ _) | (with_reducible refine Kd.C_drew ?_))); (case side4 => exact (Kd.R_reads' HO1305.out).2.1); rintro e w82 ⟨rfl, hb⟩; refine ⟨_, rfl, ?_⟩; have n0_ := Aside0.mk (Kd.R_below (by (with_reducible repeat (first | apply r_a | apply r_d | apply r_e)); exact HO1305.out) hb); replace BK1302 := bbx hb BK1302; replace HB := bsx hb HB; clear HO1305; have HO1305 := n0_; clear n0_; (try clear hb); (try clear hb2); (try clear hk); (try clear hi)))
    go_ret2
    exact ⟨_, by first | rfl | (simp [errW_none, errW_some] <;> rfl) | (simp [*, errW_none, errW_some] <;> rfl), by first | exact Kd.R_nil _ _ _ _ _ | exact Kd.N_nil _ _ _ _ _ | exact Kd.V_nil _ _ _ _ _ | exact Kd.Q_nil _ _ _ _ _ | exact Kd.S_nil _ _ _ _ _, bB HB⟩

  subst c6
  rw [if_pos rfl] at H
  replace H := Option.bind_eq_some_iff.mp H
  obtain ⟨⟨t1307, t1308, t1309, t1312⟩, A70, H⟩ := H
  try dsimp only at H
  have A7 := Aside0.mk A70
  clear A70
  replace H := Option.bind_eq_some_iff.mp H
  obtain ⟨t1316, A80, H⟩ := H
  try dsimp only at H
  have A8 := Aside0.mk A80
  clear A80
  obtain ⟨y1317, hy1317⟩ : ∃ y_ : List (S66), y_ = (([] : List (S66))) := ⟨_, rfl⟩
  replace H : ((impl_turns.f k a0_0).bind fun t1320 => (if 0 ≤ t1316 then (if t1316 < (t1312.length : Int) then (if (rd t1312 t1316) < 0 then (some (([] : List (S66)), false)) else (impl_FirstAround.l0 k t1312 t1316 y1317 t1320 t1307 t1308 t1309)) else (none)) else (none))) = some (r1, r2) := by first | (rw [hy1317]; with_reducible exact H) | (have H2_ := (Option.bind_some _ _).symm.trans H; rw [hy1317]; with_reducible exact H2_) | (have H2_ := (Option.bind_some _ _).symm.trans H; with_reducible exact H2_) | with_reducible exact H | (rw [hy1317]; exact H) | exact H
  have Ny1317 := Aside0.mk hy1317
  clear hy1317
  replace H := Option.bind_eq_some_iff.mp H
  obtain ⟨t1320, A90, H⟩ := H
  try dsimp only at H
  have A9 := Aside0.mk A90
  clear A90
  by_cases c10 : 0 ≤ t1316
  rotate_left
  · rw [if_neg c10] at H
    exact absurd H (by simp)
  rw [if_pos c10] at H
  have c10b0 : decide (0 ≤ t1316) = true := decide_eq_true c10
  clear c10
  by_cases c11 : t1316 < (t1312.length : Int)
  rotate_left
  · rw [if_neg c11] at H
    exact absurd H (by simp)
  rw [if_pos c11] at H
  have c11b0 : decide (t1316 < (t1312.length : Int)) = true := decide_eq_true c11
  clear c11
  by_cases c12 : (rd t1312 t1316) < 0
  · rw [if_pos c12] at H
    have c12b0 : decide ((rd t1312 t1316) < 0) = true := decide_eq_true c12
    clear c12
    simp only [Option.some.injEq, Prod.mk.injEq] at H
    obtain ⟨rfl, rfl⟩ := H
    go_enter Try.func97, Try.ntmps97
    try go_wp2_with (first | ((with_reducible refine gate_dst (N := 4) rfl ?_); refine box_event ?hg (N := 4) ?hd (cs := #[.int .i64 a0_0, .int .i64 a0_1]) (t := 28) ?hr ?_; (case hd => rfl); (case hg => rfl); (case hr => first | (go_simp; done) | (go_simp; rfl)); intro gb1302 hg w13 hbox hb; have n0_ := bsx hb HB; have n1_ := Aside0.mk (hbox); have n2_ := gwx hg HB; have n3_ := n2_; clear HB; have HB := n0_; have BK1302 := n1_; have GW1302 := n2_; have GE1302 := n3_; clear n0_ n1_ n2_ n3_; clear hb hbox hg; have hcz14_0 := cz0 BK1302; have hcz14_1 := cz1 BK1302; have hfz14_0 := blk_frozen BK1302.out 0; have hfz14_1 := blk_frozen BK1302.out 1) | ((with_reducible refine gate_dst (N := 21) rfl ?_); refine Kd.R_lit Kd.string _ 9 ?hg (N := 21) ?hd (xs := ([a2, a3] : List ByteArray)) (inner := [.string a2, .string a3]) (ok := fun _ => True) (okp := fun _ => True) ?hr ?hp (fun _ hk => hk) trivial (Below.refl _ _) (Nat.le_refl _) (by simp) ?_; (case hd => rfl); (case hg => rfl); (case hr => first | (go_simp; done) | (go_simp; rfl)); (case hp => exact (Reps.one (show Kd.M Kd.string _ _ _ a2 [.string a2] from rfl) (Reps.one (show Kd.M Kd.string _ _ _ a3 [.string a3] from rfl) (Reps.none _ _)))); intro v1304 w15 ho16 hb hg_ hnew_; clear hg_ hnew_; (first | rw [← Ny1303.out] at ho16 | (simp only [Int.reduceToNat] at ho16; rw [← Ny1303.out] at ho16)); have n0_ := Aside0.mk (Kd.R_lower ho16 (below_size (bB HB))); replace BK1302 := bbx hb BK1302; have n2_ := bsx hb HB; clear HB; have HO1305 := n0_; have HB := n2_; clear n0_ n2_; clear hb ho16; obtain ⟨Ao17, co17, eo17⟩ := Kd.R_slice HO1305.out; subst eo17) | ((with_reducible refine gate_callee (f := 87) rfl ?_); refine goesL_ (some 22) rfl rfl Try.func87 (by kernel_rfl) rfl #[.agg #[.int .i64 a0_0, .int .i64 a0_1], .slice A1 l1.length c1, .slice Ao17 y1303.length co17] rfl (by (try simp only [m_1, m_2, m_3]); first | done | rfl | (simp only [m_4, m_5]; rfl)) ?_; (with_reducible refine (impl_areLive.calls k a0_0 a0_1 _ _ l1 _ _ y1303 true _ ?side1 ?side2 ?side3 ?side4 A5.out).mono ?_); (case side1 => repeat (first | exact (Kd.C_below HR1.out HB.out) | (with_reducible refine Kd.C_alloc ?_ _) | (with_reducible refine Kd.C_drewN ?_ _) | (with_reducible refine Kd.C_drew ?_))); (case side2 => exact HC1.out); (case side3 => repeat (first | exact (Kd.R_reads' HO1305.out).2.2 | (with_reducible refine Kd.C_alloc ?_ _) | (with_reducible refine Kd.C_drewN ?_ _) | (with_reducible refine Kd.C_drew ?_))); (case side4 => exact (Kd.R_reads' HO1305.out).2.1); rintro e w18 ⟨rfl, hb⟩; refine ⟨_, rfl, ?_⟩; have n0_ := Aside0.mk (Kd.R_below (by (with_reducible repeat (first | apply r_a | apply r_d | apply r_e)); exact HO1305.out) hb); replace BK1302 := bbx hb BK1302; replace HB := bsx hb HB; clear HO1305; have HO1305 := n0_; clear n0_; (try clear hb); (try clear hb2); (try clear hk); (try clear hi); have hcz19_0 := cz0 BK1302; have hcz19_1 := cz1 BK1302; have hfz19_0 := blk_frozen BK1302.out 0; have hfz19_1 := blk_frozen BK1302.out 1) | ((with_reducible refine gate_callee (f := 145) rfl ?_); refine goesL_ (some 28) rfl rfl Try.func145 (by kernel_rfl) rfl #[.agg #[.int .i64 a0_0, .int .i64 a0_1], .slice A1 l1.length c1, .string a3] rfl (by (try simp only [m_1, m_2, m_3]); first | done | rfl | (simp only [m_4, m_5]; rfl)) ?_; (with_reducible refine (impl_farOf.calls k a0_0 a0_1 _ _ l1 a3 t1307 t1308 t1309 t1312 _ ?side1 ?side2 A7.out).mono ?_); (case side1 => repeat (first | exact (Kd.C_below HR1.out HB.out) | (with_reducible refine Kd.C_alloc ?_ _) | (with_reducible refine Kd.C_drewN ?_ _) | (with_reducible refine Kd.C_drew ?_))); (case side2 => exact HC1.out); rintro e w20 ⟨v1310, v1313, rfl, ho0, ho1, hb⟩; refine ⟨_, rfl, ?_⟩; have n0_ := Aside0.mk (Kd.R_below (by (with_reducible repeat (first | apply r_a | apply r_d | apply r_e)); exact HO1305.out) hb); have n1_ := Aside0.mk (Kd.R_lower ho0 (below_size (bB HB))); have n2_ := Aside0.mk (Kd.R_lower ho1 (below_size (bB HB))); replace BK1302 := bbx hb BK1302; have n4_ := bsx hb HB; clear HO1305; clear HB; have HO1305 := n0_; have HO1311 := n1_; have HO1314 := n2_; have HB := n4_; clear n0_ n1_ n2_ n4_; (try clear hb); (try clear hb2); (try clear hk); (try clear hi); (try clear ho0); (try clear ho1)) | ((with_reducible refine gate_dst (N := 10) rfl ?_); refine box_event ?hg (N := 10) ?hd (cs := #[.int .i64 0, .int .i64 0, .slice none 0 0]) (t := 105) ?hr ?_; (case hd => rfl); (case hg => rfl); (case hr => first | (go_simp; done) | (go_simp; rfl)); intro gb1315 hg w21 hbox hb; have n0_ := Aside0.mk (Kd.R_below (by (with_reducible repeat (first | apply r_a | apply r_d | apply r_e)); exact HO1305.out) hb); have n1_ := Aside0.mk (Kd.R_below (by (with_reducible repeat (first | apply r_a | apply r_d | apply r_e)); exact HO1311.out) hb); have n2_ := Aside0.mk (Kd.R_below (by (with_reducible repeat (first | apply r_a | apply r_d | apply r_e)); exact HO1314.out) hb); have n3_ := bbx hb BK1302; have n4_ := bsx hb HB; have n5_ := Aside0.mk (hbox); have n6_ := gwx hg HB; have n7_ := gwx hg HB; have n8_ := nlx hg BK1302; have n9_ := ngx hg BK1302; clear HO1305; clear HO1311; clear HO1314; clear BK1302; clear HB; have HO1305 := n0_; have HO1311 := n1_; have HO1314 := n2_; have BK1302 := n3_; have HB := n4_; have BK1315 := n5_; have GW1315 := n6_; have GE1315 := n7_; have NB1302_1315 := n8_; have NB1315_1302 := n9_; clear n0_ n1_ n2_ n3_ n4_ n5_ n6_ n7_ n8_ n9_; clear hb hbox hg; have hnb22 := NB1315_1302.out; have hnc22 := NB1302_1315.out; have hcz23_0 : w21.cell? ⟨gb1315, 0, none⟩ = some (.int .i64 0) := (blk_cell BK1315.out 0).trans rfl; have hcz23_1 : w21.cell? ⟨gb1315, 1, none⟩ = some (.int .i64 0) := (blk_cell BK1315.out 1).trans rfl; have hcz23_2 : w21.cell? ⟨gb1315, 2, none⟩ = some (.slice none 0 0) := (blk_cell BK1315.out 2).trans rfl; have hfz23_0 := blk_frozen BK1315.out 0; have hfz23_1 := blk_frozen BK1315.out 1; have hfz23_2 := blk_frozen BK1315.out 2; obtain ⟨Ao24, co24, eo24⟩ := Kd.R_slice HO1311.out; subst eo24))
    have n0_ : Aside0 (Kd.R Kd.string 9 (((w21.setCell ⟨gb1315, 0, none⟩ (.int .i64 t1307)).setCell ⟨gb1315, 1, none⟩ (.int .i64 t1308)).setCell ⟨gb1315, 2, none⟩ (.slice Ao24 t1309.length co24)) w.heap.size (fun _ => True) (.slice Ao17 y1303.length co17) y1303) := ⟨by (with_reducible repeat (first | apply r_a | apply r_d | apply r_e)); exact Kd.R_mono (Kd.R_far (p := ⟨gb1315, 2, none⟩) (Kd.R_far (p := ⟨gb1315, 1, none⟩) (Kd.R_far (p := ⟨gb1315, 0, none⟩) (Kd.R_types HO1305.out BK1315.out (by decide)) (fun _ hk => hk.2) (.int .i64 t1307)) (fun _ hk => hk.2) (.int .i64 t1308)) (fun _ hk => hk.2) (.slice Ao24 t1309.length co24)) (fun _ hk => trivial)⟩
    have n1_ : Aside0 (Kd.R Kd.bool 4 (((w21.setCell ⟨gb1315, 0, none⟩ (.int .i64 t1307)).setCell ⟨gb1315, 1, none⟩ (.int .i64 t1308)).setCell ⟨gb1315, 2, none⟩ (.slice Ao24 t1309.length co24)) w.heap.size (fun _ => True) (.slice Ao24 t1309.length co24) t1309) := ⟨by (with_reducible repeat (first | apply r_a | apply r_d | apply r_e)); exact Kd.R_mono (Kd.R_far (p := ⟨gb1315, 2, none⟩) (Kd.R_far (p := ⟨gb1315, 1, none⟩) (Kd.R_far (p := ⟨gb1315, 0, none⟩) (Kd.R_types HO1311.out BK1315.out (by decide)) (fun _ hk => hk.2) (.int .i64 t1307)) (fun _ hk => hk.2) (.int .i64 t1308)) (fun _ hk => hk.2) (.slice Ao24 t1309.length co24)) (fun _ hk => trivial)⟩
    have n2_ : Aside0 (Kd.R (Kd.int .i64) 3 (((w21.setCell ⟨gb1315, 0, none⟩ (.int .i64 t1307)).setCell ⟨gb1315, 1, none⟩ (.int .i64 t1308)).setCell ⟨gb1315, 2, none⟩ (.slice Ao24 t1309.length co24)) w.heap.size (fun _ => True) v1313 t1312) := ⟨by (with_reducible repeat (first | apply r_a | apply r_d | apply r_e)); exact Kd.R_mono (Kd.R_far (p := ⟨gb1315, 2, none⟩) (Kd.R_far (p := ⟨gb1315, 1, none⟩) (Kd.R_far (p := ⟨gb1315, 0, none⟩) (Kd.R_types HO1314.out BK1315.out (by decide)) (fun _ hk => hk.2) (.int .i64 t1307)) (fun _ hk => hk.2) (.int .i64 t1308)) (fun _ hk => hk.2) (.slice Ao24 t1309.length co24)) (fun _ hk => trivial)⟩
    have n3_ : Aside0 ((((w21.setCell ⟨gb1315, 0, none⟩ (.int .i64 t1307)).setCell ⟨gb1315, 1, none⟩ (.int .i64 t1308)).setCell ⟨gb1315, 2, none⟩ (.slice Ao24 t1309.length co24)).heap[gb1302]? = some (.cells #[.int .i64 a0_0, .int .i64 a0_1] 28 (0, 0))) := ⟨bF⟩
    have n4_ : Aside0 ((((w21.setCell ⟨gb1315, 0, none⟩ (.int .i64 t1307)).setCell ⟨gb1315, 1, none⟩ (.int .i64 t1308)).setCell ⟨gb1315, 2, none⟩ (.slice Ao24 t1309.length co24)).heap[gb1315]? = some (.cells #[.int .i64 t1307, .int .i64 t1308, .slice Ao24 t1309.length co24] 105 (0, 0))) := ⟨by (with_reducible repeat (first | refine g_d ?_ _ | refine g_e ?_ | refine g_a ?_ _)); refine blk_put (cs := #[.int .i64 t1307, .int .i64 t1308, .slice none 0 0]) ?_ 2 _ rfl; (with_reducible repeat (first | refine g_d ?_ _ | refine g_e ?_ | refine g_a ?_ _)); refine blk_put (cs := #[.int .i64 t1307, .int .i64 0, .slice none 0 0]) ?_ 1 _ rfl; (with_reducible repeat (first | refine g_d ?_ _ | refine g_e ?_ | refine g_a ?_ _)); refine blk_put (cs := #[.int .i64 0, .int .i64 0, .slice none 0 0]) ?_ 0 _ rfl; (with_reducible repeat (first | refine g_d ?_ _ | refine g_e ?_ | refine g_a ?_ _)); exact BK1315.out⟩
    have n5_ : Aside0 (Below w.heap.size w (((w21.setCell ⟨gb1315, 0, none⟩ (.int .i64 t1307)).setCell ⟨gb1315, 1, none⟩ (.int .i64 t1308)).setCell ⟨gb1315, 2, none⟩ (.slice Ao24 t1309.length co24))) := ⟨bB HB⟩
    (try clear HO1305)
    (try clear HO1311)
    (try clear HO1314)
    (try clear BK1302)
    (try clear BK1315)
    (try clear HB)
    generalize (((w21.setCell ⟨gb1315, 0, none⟩ (.int .i64 t1307)).setCell ⟨gb1315, 1, none⟩ (.int .i64 t1308)).setCell ⟨gb1315, 2, none⟩ (.slice Ao24 t1309.length co24)) = w25 at n0_ n1_ n2_ n3_ n4_ n5_ ⊢
    have HO1305 := n0_
    have HO1311 := n1_
    have HO1314 := n2_
    have BK1302 := n3_
    have BK1315 := n4_
    have HB := n5_
    clear n0_ n1_ n2_ n3_ n4_ n5_
    have n0_ := Aside0.mk (r_e HO1305.out)
    have n1_ := Aside0.mk (r_e HO1311.out)
    have n2_ := Aside0.mk (r_e HO1314.out)
    have n3_ := Aside0.mk (g_e BK1302.out)
    have n4_ := Aside0.mk (g_e BK1315.out)
    have n5_ := Aside0.mk (b_e HB.out)
    clear HO1305
    clear HO1311
    clear HO1314
    clear BK1302
    clear BK1315
    clear HB
    have HO1305 := n0_
    have HO1311 := n1_
    have HO1314 := n2_
    have BK1302 := n3_
    have BK1315 := n4_
    have HB := n5_
    clear n0_ n1_ n2_ n3_ n4_ n5_
    refine start_ (n := 10) (S := fun w' => w'.cell? ⟨gb1302, 0, none⟩ = some (.int .i64 a0_0) ∧ w'.cell? ⟨gb1302, 1, none⟩ = some (.int .i64 a0_1)) (ds := []) (bs_ 10 0) (by kernel_rfl) rfl rfl ⟨(blk_cell BK1302.out 0).trans rfl, (blk_cell BK1302.out 1).trans rfl⟩ (fun hHeld => ?_); refine with_tabW impl_FirstAround.tab4 impl_FirstAround.bits4 (fun HT_ HW_ => ?_)
    generalize w25.drew = w26 at HO1305 HO1311 HO1314 BK1302 BK1315 HB hHeld ⊢
    refine pua 1 32 (bs_ 10 2) HT_ ?_
    refine pua 4 35 (bs_ 10 18) HT_ ?_
    refine tk_ 0 31 (bs_ 10 19) rfl rfl HT_ HW_ (by kernel_rfl) (fun _ _ _ h => h) (by rfl) hHeld (by rintro w' ⟨s0, s1⟩; go_simp; with_reducible rfl) (by simp only [Act.put, s_1, s_2, s_3, i64_w, i32_w]; rfl) ?_
    refine tk_ 5 36 (bs_ 10 51) rfl rfl HT_ HW_ (by kernel_rfl) (fun _ _ _ h => h) (by rfl) hHeld (by rintro w' ⟨s0, s1⟩; go_simp; with_reducible rfl) (by simp only [Act.put, s_1, s_2, s_3, i64_w, i32_w]; rfl) ?_
    refine join_ (σ := Value × Value) 2 (bs_ 10 255) (fun s_ => [(33, .int .i64 t1316), (34, s_.1), (37, s_.2), (12, .int .i64 t1316)]) (fun s_ w' => (w'.cell? ⟨gb1302, 0, none⟩ = some (.int .i64 a0_0) ∧ w'.cell? ⟨gb1302, 1, none⟩ = some (.int .i64 a0_1)) ∧ (Kd.R Kd.string 9 w' w.heap.size (fun _ => True) (.slice Ao17 y1303.length co17) y1303) ∧ (Kd.R Kd.bool 4 w' w.heap.size (fun _ => True) (.slice Ao24 t1309.length co24) t1309) ∧ (Kd.R (Kd.int .i64) 3 w' w.heap.size (fun _ => True) v1313 t1312) ∧ (Kd.R k66 66 w' w.heap.size (fun k_ => some k_ ≠ (s_.2 : Value).ownBlock) s_.1 y1317) ∧ (Kd.R k66 66 w' w.heap.size (fun k_ => some k_ ≠ (s_.1 : Value).ownBlock) s_.2 t1320) ∧ (w'.heap[gb1302]? = some (.cells #[.int .i64 a0_0, .int .i64 a0_1] 28 (0, 0))) ∧ (w'.heap[gb1315]? = some (.cells #[.int .i64 t1307, .int .i64 t1308, .slice Ao24 t1309.length co24] 105 (0, 0))) ∧ (Below w.heap.size w w')) ?_ ?_
    rotate_left
    · intro hCont
      refine two_ (i := 2) (j := 3) (Ni := some 33) (Nj := some 34) (bs_ 10 55) (bs_ 10 59) rfl rfl rfl rfl (two_of HT_.out (by kernel_rfl)) (by decide) (by decide) (fun K hK => ?_) (fun K hK => ?_)
      · skip
        refine goes_ Try.func68 (by kernel_rfl) rfl #[.agg #[.int .i64 a0_0, .int .i64 a0_1], .string a2] (by rfl) rfl rfl (by (try simp only [m_1, m_2, m_3]); first | done | rfl | (simp only [m_4, m_5]; rfl)) ?_
        with_reducible refine (impl_Lock_number.calls k a0_0 a0_1 a2 t1316 _ A8.out).mono ?_
        rintro e w27 ⟨rfl, hb⟩
        refine ⟨_, rfl, ?_⟩
        have n0_ := Aside0.mk (Kd.R_below (by (with_reducible repeat (first | apply r_a | apply r_d | apply r_e)); exact HO1305.out) hb)
        have n1_ := Aside0.mk (Kd.R_below (by (with_reducible repeat (first | apply r_a | apply r_d | apply r_e)); exact HO1311.out) hb)
        have n2_ := Aside0.mk (Kd.R_below (by (with_reducible repeat (first | apply r_a | apply r_d | apply r_e)); exact HO1314.out) hb)
        have n3_ := bbx hb BK1302
        have n4_ := bbx hb BK1315
        have n5_ := bsx hb HB
        clear HO1305
        clear HO1311
        clear HO1314
        clear BK1302
        clear BK1315
        clear HB
        have HO1305 := n0_
        have HO1311 := n1_
        have HO1314 := n2_
        have BK1302 := n3_
        have BK1315 := n4_
        have HB := n5_
        clear n0_ n1_ n2_ n3_ n4_ n5_
        (try clear hb)
        (try clear hb2)
        (try clear hk)
        (try clear hi)
        refine hK.out _ _ ⟨(blk_cell BK1302.out 0).trans rfl, (blk_cell BK1302.out 1).trans rfl⟩ (fun hHeld => ?_)
        clear hK K
        refine norm_ (a' := ?_) ?_ ?_
        rotate_left
        · show Act.put _ (some 33) _ = _
          simp only [Act.put, s_1, s_2, s_3, i64_w, i32_w]
          rfl
        refine two_ (i := 3) (j := 6) (Ni := some 34) (Nj := some 37) (bs_ 10 63) (bs_ 10 119) rfl rfl rfl rfl (two_of HT_.out (by kernel_rfl)) (by decide) (by decide) (fun K hK => ?_) (fun K hK => ?_)
        · skip
          refine Kd.R_lit_step k66 _ 66 ?hg (N := 34) ?hd (xs := ([] : List (S66))) (inner := []) (ok := fun _ => True) (okp := fun _ => True) ?hr ?hp (fun _ hk => hk) trivial (Below.refl _ _) (Nat.le_refl _) (by simp) ?_; (case hd => rfl); (case hg => rfl); (case hr => first | (go_simp; done) | (go_simp; rfl)); (case hp => exact (Reps.none _ _))
          intro v1318 w28 ho29 hb hg_ hnew_
          clear hg_ hnew_
          (first | rw [← Ny1317.out] at ho29 | (simp only [Int.reduceToNat] at ho29; rw [← Ny1317.out] at ho29))
          have n0_ := Aside0.mk (Kd.R_below (by (with_reducible repeat (first | apply r_a | apply r_d | apply r_e)); exact HO1305.out) hb)
          have n1_ := Aside0.mk (Kd.R_below (by (with_reducible repeat (first | apply r_a | apply r_d | apply r_e)); exact HO1311.out) hb)
          have n2_ := Aside0.mk (Kd.R_below (by (with_reducible repeat (first | apply r_a | apply r_d | apply r_e)); exact HO1314.out) hb)
          have n3_ := Aside0.mk (Kd.R_lower ho29 (below_size (bB HB)))
          have n4_ := bbx hb BK1302
          have n5_ := bbx hb BK1315
          have n6_ := bsx hb HB
          clear HO1305
          clear HO1311
          clear HO1314
          clear BK1302
          clear BK1315
          clear HB
          have HO1305 := n0_
          have HO1311 := n1_
          have HO1314 := n2_
          have HO1319 := n3_
          have BK1302 := n4_
          have BK1315 := n5_
          have HB := n6_
          clear n0_ n1_ n2_ n3_ n4_ n5_ n6_
          clear hb ho29
          refine hK.out _ _ ⟨(blk_cell BK1302.out 0).trans rfl, (blk_cell BK1302.out 1).trans rfl⟩ (fun hHeld => ?_)
          clear hK K
          refine norm_ (a' := ?_) ?_ ?_
          rotate_left
          · show Act.put _ (some 34) _ = _
            simp only [Act.put, s_1, s_2, s_3, i64_w, i32_w]
            rfl
          refine one_ (i := 6) (N := some 37) (bs_ 10 127) rfl rfl (one_of HT_.out (by kernel_rfl)) (by decide) (fun K hK => ?_)
          refine goes_ Try.func69 (by kernel_rfl) rfl #[.int .i64 a0_0] (by rfl) rfl rfl (by (try simp only [m_1, m_2, m_3]); first | done | rfl | (simp only [m_4, m_5]; rfl)) ?_
          with_reducible refine (impl_turns.calls k a0_0 t1320 _ A9.out).mono ?_
          rintro e w30 ⟨v1321, rfl, ho0, hb⟩
          refine ⟨_, rfl, ?_⟩
          have n0_ := Aside0.mk (Kd.R_below (by (with_reducible repeat (first | apply r_a | apply r_d | apply r_e)); exact HO1305.out) hb)
          have n1_ := Aside0.mk (Kd.R_below (by (with_reducible repeat (first | apply r_a | apply r_d | apply r_e)); exact HO1311.out) hb)
          have n2_ := Aside0.mk (Kd.R_below (by (with_reducible repeat (first | apply r_a | apply r_d | apply r_e)); exact HO1314.out) hb)
          have n3_ := Aside0.mk (Kd.R_elder' (by (with_reducible repeat (first | apply r_a | apply r_d | apply r_e)); exact HO1319.out) (Kd.R_base ho0) hb)
          have n4_ := Aside0.mk (Kd.R_lower (Kd.R_new' ho0 (Kd.R_lt (by (with_reducible repeat (first | apply r_a | apply r_d | apply r_e)); exact HO1319.out))) (below_size (bB HB)))
          have n5_ := bbx hb BK1302
          have n6_ := bbx hb BK1315
          have n7_ := bsx hb HB
          clear HO1305
          clear HO1311
          clear HO1314
          clear HO1319
          clear BK1302
          clear BK1315
          clear HB
          have HO1305 := n0_
          have HO1311 := n1_
          have HO1314 := n2_
          have HO1319 := n3_
          have HO1322 := n4_
          have BK1302 := n5_
          have BK1315 := n6_
          have HB := n7_
          clear n0_ n1_ n2_ n3_ n4_ n5_ n6_ n7_
          (try clear hb)
          (try clear hb2)
          (try clear hk)
          (try clear hi)
          (try clear ho0)
          refine hK.out _ _ ⟨(blk_cell BK1302.out 0).trans rfl, (blk_cell BK1302.out 1).trans rfl⟩ (fun hHeld => ?_)
          clear hK K
          refine norm_ (a' := ?_) ?_ ?_
          rotate_left
          · show Act.put _ (some 37) _ = _
            simp only [Act.put, s_1, s_2, s_3, i64_w, i32_w]
            rfl
          refine pua 7 12 (bs_ 10 255) HT_ ?_
          exact norm_ (by simp only [putAll, Act.put, s_1, s_2, s_3]) (hCont (v1318, v1321) _ ⟨hHeld, (by (with_reducible repeat (first | apply r_a | apply r_d | apply r_e)); exact HO1305.out), (by (with_reducible repeat (first | apply r_a | apply r_d | apply r_e)); exact HO1311.out), (by (with_reducible repeat (first | apply r_a | apply r_d | apply r_e)); exact HO1314.out), (by (with_reducible repeat (first | apply r_a | apply r_d | apply r_e)); exact Kd.R_mono HO1319.out (fun _ hk => hk.2)), (by (with_reducible repeat (first | apply r_a | apply r_d | apply r_e)); exact Kd.R_mono HO1322.out (fun _ hk => hk.2)), (bK BK1302), (bK BK1315), (bB HB)⟩)
        · skip
          refine goes_ Try.func69 (by kernel_rfl) rfl #[.int .i64 a0_0] (by rfl) rfl rfl (by (try simp only [m_1, m_2, m_3]); first | done | rfl | (simp only [m_4, m_5]; rfl)) ?_
          with_reducible refine (impl_turns.calls k a0_0 t1320 _ A9.out).mono ?_
          rintro e w28 ⟨v1321, rfl, ho0, hb⟩
          refine ⟨_, rfl, ?_⟩
          have n0_ := Aside0.mk (Kd.R_below (by (with_reducible repeat (first | apply r_a | apply r_d | apply r_e)); exact HO1305.out) hb)
          have n1_ := Aside0.mk (Kd.R_below (by (with_reducible repeat (first | apply r_a | apply r_d | apply r_e)); exact HO1311.out) hb)
          have n2_ := Aside0.mk (Kd.R_below (by (with_reducible repeat (first | apply r_a | apply r_d | apply r_e)); exact HO1314.out) hb)
          have n3_ := Aside0.mk (Kd.R_lower ho0 (below_size (bB HB)))
          have n4_ := bbx hb BK1302
          have n5_ := bbx hb BK1315
          have n6_ := bsx hb HB
          clear HO1305
          clear HO1311
          clear HO1314
          clear BK1302
          clear BK1315
          clear HB
          have HO1305 := n0_
          have HO1311 := n1_
          have HO1314 := n2_
          have HO1322 := n3_
          have BK1302 := n4_
          have BK1315 := n5_
          have HB := n6_
          clear n0_ n1_ n2_ n3_ n4_ n5_ n6_
          (try clear hb)
          (try clear hb2)
          (try clear hk)
          (try clear hi)
          (try clear ho0)
          refine hK.out _ _ ⟨(blk_cell BK1302.out 0).trans rfl, (blk_cell BK1302.out 1).trans rfl⟩ (fun hHeld => ?_)
          clear hK K
          refine norm_ (a' := ?_) ?_ ?_
          rotate_left
          · show Act.put _ (some 37) _ = _
            simp only [Act.put, s_1, s_2, s_3, i64_w, i32_w]
            rfl
          refine pua 7 12 (bs_ 10 247) HT_ ?_
          refine one_ (i := 3) (N := some 34) (bs_ 10 255) rfl rfl (one_of HT_.out (by kernel_rfl)) (by decide) (fun K hK => ?_)
          refine Kd.R_lit_step k66 _ 66 ?hg (N := 34) ?hd (xs := ([] : List (S66))) (inner := []) (ok := fun _ => True) (okp := fun _ => True) ?hr ?hp (fun _ hk => hk) trivial (Below.refl _ _) (Nat.le_refl _) (by simp) ?_; (case hd => rfl); (case hg => rfl); (case hr => first | (go_simp; done) | (go_simp; rfl)); (case hp => exact (Reps.none _ _))
          intro v1318 w29 ho30 hb hg_ hnew_
          clear hg_ hnew_
          (first | rw [← Ny1317.out] at ho30 | (simp only [Int.reduceToNat] at ho30; rw [← Ny1317.out] at ho30))
          have n0_ := Aside0.mk (Kd.R_below (by (with_reducible repeat (first | apply r_a | apply r_d | apply r_e)); exact HO1305.out) hb)
          have n1_ := Aside0.mk (Kd.R_below (by (with_reducible repeat (first | apply r_a | apply r_d | apply r_e)); exact HO1311.out) hb)
          have n2_ := Aside0.mk (Kd.R_below (by (with_reducible repeat (first | apply r_a | apply r_d | apply r_e)); exact HO1314.out) hb)
          have n3_ := Aside0.mk (Kd.R_elder' (by (with_reducible repeat (first | apply r_a | apply r_d | apply r_e)); exact HO1322.out) (Kd.R_base ho30) hb)
          have n4_ := Aside0.mk (Kd.R_lower (Kd.R_new' ho30 (Kd.R_lt (by (with_reducible repeat (first | apply r_a | apply r_d | apply r_e)); exact HO1322.out))) (below_size (bB HB)))
          have n5_ := bbx hb BK1302
          have n6_ := bbx hb BK1315
          have n7_ := bsx hb HB
          clear HO1305
          clear HO1311
          clear HO1314
          clear HO1322
          clear BK1302
          clear BK1315
          clear HB
          have HO1305 := n0_
          have HO1311 := n1_
          have HO1314 := n2_
          have HO1322 := n3_
          have HO1319 := n4_
          have BK1302 := n5_
          have BK1315 := n6_
          have HB := n7_
          clear n0_ n1_ n2_ n3_ n4_ n5_ n6_ n7_
          clear hb ho30
          refine hK.out _ _ ⟨(blk_cell BK1302.out 0).trans rfl, (blk_cell BK1302.out 1).trans rfl⟩ (fun hHeld => ?_)
          clear hK K
          refine norm_ (a' := ?_) ?_ ?_
          rotate_left
          · show Act.put _ (some 34) _ = _
            simp only [Act.put, s_1, s_2, s_3, i64_w, i32_w]
            rfl
          exact norm_ (by simp only [putAll, Act.put, s_1, s_2, s_3]) (hCont (v1318, v1321) _ ⟨hHeld, (by (with_reducible repeat (first | apply r_a | apply r_d | apply r_e)); exact HO1305.out), (by (with_reducible repeat (first | apply r_a | apply r_d | apply r_e)); exact HO1311.out), (by (with_reducible repeat (first | apply r_a | apply r_d | apply r_e)); exact HO1314.out), (by (with_reducible repeat (first | apply r_a | apply r_d | apply r_e)); exact Kd.R_mono HO1319.out (fun _ hk => hk.2)), (by (with_reducible repeat (first | apply r_a | apply r_d | apply r_e)); exact Kd.R_mono HO1322.out (fun _ hk => hk.2)), (bK BK1302), (bK BK1315), (bB HB)⟩)
      · skip
        refine Kd.R_lit_step k66 _ 66 ?hg (N := 34) ?hd (xs := ([] : List (S66))) (inner := []) (ok := fun _ => True) (okp := fun _ => True) ?hr ?hp (fun _ hk => hk) trivial (Below.refl _ _) (Nat.le_refl _) (by simp) ?_; (case hd => rfl); (case hg => rfl); (case hr => first | (go_simp; done) | (go_simp; rfl)); (case hp => exact (Reps.none _ _))
        intro v1318 w27 ho28 hb hg_ hnew_
        clear hg_ hnew_
        (first | rw [← Ny1317.out] at ho28 | (simp only [Int.reduceToNat] at ho28; rw [← Ny1317.out] at ho28))
        have n0_ := Aside0.mk (Kd.R_below (by (with_reducible repeat (first | apply r_a | apply r_d | apply r_e)); exact HO1305.out) hb)
        have n1_ := Aside0.mk (Kd.R_below (by (with_reducible repeat (first | apply r_a | apply r_d | apply r_e)); exact HO1311.out) hb)
        have n2_ := Aside0.mk (Kd.R_below (by (with_reducible repeat (first | apply r_a | apply r_d | apply r_e)); exact HO1314.out) hb)
        have n3_ := Aside0.mk (Kd.R_lower ho28 (below_size (bB HB)))
        have n4_ := bbx hb BK1302
        have n5_ := bbx hb BK1315
        have n6_ := bsx hb HB
        clear HO1305
        clear HO1311
        clear HO1314
        clear BK1302
        clear BK1315
        clear HB
        have HO1305 := n0_
        have HO1311 := n1_
        have HO1314 := n2_
        have HO1319 := n3_
        have BK1302 := n4_
        have BK1315 := n5_
        have HB := n6_
        clear n0_ n1_ n2_ n3_ n4_ n5_ n6_
        clear hb ho28
        refine hK.out _ _ ⟨(blk_cell BK1302.out 0).trans rfl, (blk_cell BK1302.out 1).trans rfl⟩ (fun hHeld => ?_)
        clear hK K
        refine norm_ (a' := ?_) ?_ ?_
        rotate_left
        · show Act.put _ (some 34) _ = _
          simp only [Act.put, s_1, s_2, s_3, i64_w, i32_w]
          rfl
        refine one_ (i := 2) (N := some 33) (bs_ 10 63) rfl rfl (one_of HT_.out (by kernel_rfl)) (by decide) (fun K hK => ?_)
        refine goes_ Try.func68 (by kernel_rfl) rfl #[.agg #[.int .i64 a0_0, .int .i64 a0_1], .string a2] (by rfl) rfl rfl (by (try simp only [m_1, m_2, m_3]); first | done | rfl | (simp only [m_4, m_5]; rfl)) ?_
        with_reducible refine (impl_Lock_number.calls k a0_0 a0_1 a2 t1316 _ A8.out).mono ?_
        rintro e w29 ⟨rfl, hb⟩
        refine ⟨_, rfl, ?_⟩
        have n0_ := Aside0.mk (Kd.R_below (by (with_reducible repeat (first | apply r_a | apply r_d | apply r_e)); exact HO1305.out) hb)
        have n1_ := Aside0.mk (Kd.R_below (by (with_reducible repeat (first | apply r_a | apply r_d | apply r_e)); exact HO1311.out) hb)
        have n2_ := Aside0.mk (Kd.R_below (by (with_reducible repeat (first | apply r_a | apply r_d | apply r_e)); exact HO1314.out) hb)
        have n3_ := Aside0.mk (Kd.R_below (by (with_reducible repeat (first | apply r_a | apply r_d | apply r_e)); exact HO1319.out) hb)
        have n4_ := bbx hb BK1302
        have n5_ := bbx hb BK1315
        have n6_ := bsx hb HB
        clear HO1305
        clear HO1311
        clear HO1314
        clear HO1319
        clear BK1302
        clear BK1315
        clear HB
        have HO1305 := n0_
        have HO1311 := n1_
        have HO1314 := n2_
        have HO1319 := n3_
        have BK1302 := n4_
        have BK1315 := n5_
        have HB := n6_
        clear n0_ n1_ n2_ n3_ n4_ n5_ n6_
        (try clear hb)
        (try clear hb2)
        (try clear hk)
        (try clear hi)
        refine hK.out _ _ ⟨(blk_cell BK1302.out 0).trans rfl, (blk_cell BK1302.out 1).trans rfl⟩ (fun hHeld => ?_)
        clear hK K
        refine norm_ (a' := ?_) ?_ ?_
        rotate_left
        · show Act.put _ (some 33) _ = _
          simp only [Act.put, s_1, s_2, s_3, i64_w, i32_w]
          rfl
        refine one_ (i := 6) (N := some 37) (bs_ 10 127) rfl rfl (one_of HT_.out (by kernel_rfl)) (by decide) (fun K hK => ?_)
        refine goes_ Try.func69 (by kernel_rfl) rfl #[.int .i64 a0_0] (by rfl) rfl rfl (by (try simp only [m_1, m_2, m_3]); first | done | rfl | (simp only [m_4, m_5]; rfl)) ?_
        with_reducible refine (impl_turns.calls k a0_0 t1320 _ A9.out).mono ?_
        rintro e w30 ⟨v1321, rfl, ho0, hb⟩
        refine ⟨_, rfl, ?_⟩
        have n0_ := Aside0.mk (Kd.R_below (by (with_reducible repeat (first | apply r_a | apply r_d | apply r_e)); exact HO1305.out) hb)
        have n1_ := Aside0.mk (Kd.R_below (by (with_reducible repeat (first | apply r_a | apply r_d | apply r_e)); exact HO1311.out) hb)
        have n2_ := Aside0.mk (Kd.R_below (by (with_reducible repeat (first | apply r_a | apply r_d | apply r_e)); exact HO1314.out) hb)
        have n3_ := Aside0.mk (Kd.R_elder' (by (with_reducible repeat (first | apply r_a | apply r_d | apply r_e)); exact HO1319.out) (Kd.R_base ho0) hb)
        have n4_ := Aside0.mk (Kd.R_lower (Kd.R_new' ho0 (Kd.R_lt (by (with_reducible repeat (first | apply r_a | apply r_d | apply r_e)); exact HO1319.out))) (below_size (bB HB)))
        have n5_ := bbx hb BK1302
        have n6_ := bbx hb BK1315
        have n7_ := bsx hb HB
        clear HO1305
        clear HO1311
        clear HO1314
        clear HO1319
        clear BK1302
        clear BK1315
        clear HB
        have HO1305 := n0_
        have HO1311 := n1_
        have HO1314 := n2_
        have HO1319 := n3_
        have HO1322 := n4_
        have BK1302 := n5_
        have BK1315 := n6_
        have HB := n7_
        clear n0_ n1_ n2_ n3_ n4_ n5_ n6_ n7_
        (try clear hb)
        (try clear hb2)
        (try clear hk)
        (try clear hi)
        (try clear ho0)
        refine hK.out _ _ ⟨(blk_cell BK1302.out 0).trans rfl, (blk_cell BK1302.out 1).trans rfl⟩ (fun hHeld => ?_)
        clear hK K
        refine norm_ (a' := ?_) ?_ ?_
        rotate_left
        · show Act.put _ (some 37) _ = _
          simp only [Act.put, s_1, s_2, s_3, i64_w, i32_w]
          rfl
        refine pua 7 12 (bs_ 10 255) HT_ ?_
        exact norm_ (by simp only [putAll, Act.put, s_1, s_2, s_3]) (hCont (v1318, v1321) _ ⟨hHeld, (by (with_reducible repeat (first | apply r_a | apply r_d | apply r_e)); exact HO1305.out), (by (with_reducible repeat (first | apply r_a | apply r_d | apply r_e)); exact HO1311.out), (by (with_reducible repeat (first | apply r_a | apply r_d | apply r_e)); exact HO1314.out), (by (with_reducible repeat (first | apply r_a | apply r_d | apply r_e)); exact Kd.R_mono HO1319.out (fun _ hk => hk.2)), (by (with_reducible repeat (first | apply r_a | apply r_d | apply r_e)); exact Kd.R_mono HO1322.out (fun _ hk => hk.2)), (bK BK1302), (bK BK1315), (bB HB)⟩)
    rintro ⟨v1318, v1321⟩ w31 ⟨hS_, h0_, h1_, h2_, h3_, h4_, h5_, h6_, h7_⟩
    have n0_ : Aside0 (Kd.R Kd.string 9 w31 w.heap.size (fun _ => True) (.slice Ao17 y1303.length co17) y1303) := ⟨h0_⟩
    have n1_ : Aside0 (Kd.R Kd.bool 4 w31 w.heap.size (fun _ => True) (.slice Ao24 t1309.length co24) t1309) := ⟨h1_⟩
    have n2_ : Aside0 (Kd.R (Kd.int .i64) 3 w31 w.heap.size (fun _ => True) v1313 t1312) := ⟨h2_⟩
    have n3_ : Aside0 (Kd.R k66 66 w31 w.heap.size (fun k_ => some k_ ≠ (v1321 : Value).ownBlock) v1318 y1317) := ⟨h3_⟩
    have n4_ : Aside0 (Kd.R k66 66 w31 w.heap.size (fun k_ => some k_ ≠ (v1318 : Value).ownBlock) v1321 t1320) := ⟨h4_⟩
    have n5_ : Aside0 (w31.heap[gb1302]? = some (.cells #[.int .i64 a0_0, .int .i64 a0_1] 28 (0, 0))) := ⟨h5_⟩
    have n6_ : Aside0 (w31.heap[gb1315]? = some (.cells #[.int .i64 t1307, .int .i64 t1308, .slice Ao24 t1309.length co24] 105 (0, 0))) := ⟨h6_⟩
    have n7_ : Aside0 (Below w.heap.size w w31) := ⟨h7_⟩
    clear HO1305
    clear HO1311
    clear HO1314
    clear BK1302
    clear BK1315
    clear HB
    clear h0_ h1_ h2_ h3_ h4_ h5_ h6_ h7_
    have HO1305 := n0_
    have HO1311 := n1_
    have HO1314 := n2_
    have HO1319 := n3_
    have HO1322 := n4_
    have BK1302 := n5_
    have BK1315 := n6_
    have HB := n7_
    clear n0_ n1_ n2_ n3_ n4_ n5_ n6_ n7_
    have hHeld : w31.cell? ⟨gb1302, 0, none⟩ = some (.int .i64 a0_0) ∧ w31.cell? ⟨gb1302, 1, none⟩ = some (.int .i64 a0_1) := hS_
    refine norm_ (a' := ?_) ?_ ?_
    rotate_left
    · simp only [putAll, Act.put, s_1, s_2, s_3]
      rfl
    refine pua 8 13 (bs_ 10 511) HT_ ?_
    refine pua 9 14 (bs_ 10 1023) HT_ ?_
    refine done_ (done_of HT_.out (by kernel_rfl)) ?_
    obtain ⟨Ao32, co32, eo32⟩ := Kd.R_slice HO1314.out
    subst eo32
    have p1323 : 0 ≤ (t1316 : Int) := of_decide_eq_true (by first | (with_reducible assumption) | assumption)
    have q1323 : t1316 < (t1312.length : Int) := of_decide_eq_true (by first | (with_reducible assumption) | assumption)
    obtain ⟨ad1323, e1323, hx1323_0⟩ := Kd.at_int (Kd.R_reads' HO1314.out).2.2 t1316 p1323 q1323
    cases e1323
    replace p1323 := eq_true p1323
    replace q1323 := eq_true q1323
    try go_wp2
    go_ret2
    exact ⟨_, by first | rfl | (simp [errW_none, errW_some] <;> rfl) | (simp [*, errW_none, errW_some] <;> rfl), by first | exact Kd.R_nil _ _ _ _ _ | exact Kd.N_nil _ _ _ _ _ | exact Kd.V_nil _ _ _ _ _ | exact Kd.Q_nil _ _ _ _ _ | exact Kd.S_nil _ _ _ _ _, bB HB⟩
  rw [if_neg c12] at H
  have c12b0 : decide ((rd t1312 t1316) < 0) = false := decide_eq_false c12
  clear c12
  have H' := Aside0.mk H
  clear H
  go_enter Try.func97, Try.ntmps97
  try go_wp2_with (first | ((with_reducible refine gate_dst (N := 4) rfl ?_); refine box_event ?hg (N := 4) ?hd (cs := #[.int .i64 a0_0, .int .i64 a0_1]) (t := 28) ?hr ?_; (case hd => rfl); (case hg => rfl); (case hr => first | (go_simp; done) | (go_simp; rfl)); intro gb1302 hg w33 hbox hb; have n0_ := bsx hb HB; have n1_ := Aside0.mk (hbox); have n2_ := gwx hg HB; have n3_ := n2_; clear HB; have HB := n0_; have BK1302 := n1_; have GW1302 := n2_; have GE1302 := n3_; clear n0_ n1_ n2_ n3_; clear hb hbox hg; have hcz34_0 := cz0 BK1302; have hcz34_1 := cz1 BK1302; have hfz34_0 := blk_frozen BK1302.out 0; have hfz34_1 := blk_frozen BK1302.out 1) | ((with_reducible refine gate_dst (N := 21) rfl ?_); refine Kd.R_lit Kd.string _ 9 ?hg (N := 21) ?hd (xs := ([a2, a3] : List ByteArray)) (inner := [.string a2, .string a3]) (ok := fun _ => True) (okp := fun _ => True) ?hr ?hp (fun _ hk => hk) trivial (Below.refl _ _) (Nat.le_refl _) (by simp) ?_; (case hd => rfl); (case hg => rfl); (case hr => first | (go_simp; done) | (go_simp; rfl)); (case hp => exact (Reps.one (show Kd.M Kd.string _ _ _ a2 [.string a2] from rfl) (Reps.one (show Kd.M Kd.string _ _ _ a3 [.string a3] from rfl) (Reps.none _ _)))); intro v1304 w35 ho36 hb hg_ hnew_; clear hg_ hnew_; (first | rw [← Ny1303.out] at ho36 | (simp only [Int.reduceToNat] at ho36; rw [← Ny1303.out] at ho36)); have n0_ := Aside0.mk (Kd.R_lower ho36 (below_size (bB HB))); replace BK1302 := bbx hb BK1302; have n2_ := bsx hb HB; clear HB; have HO1305 := n0_; have HB := n2_; clear n0_ n2_; clear hb ho36; obtain ⟨Ao37, co37, eo37⟩ := Kd.R_slice HO1305.out; subst eo37) | ((with_reducible refine gate_callee (f := 87) rfl ?_); refine goesL_ (some 22) rfl rfl Try.func87 (by kernel_rfl) rfl #[.agg #[.int .i64 a0_0, .int .i64 a0_1], .slice A1 l1.length c1, .slice Ao37 y1303.length co37] rfl (by (try simp only [m_1, m_2, m_3]); first | done | rfl | (simp only [m_4, m_5]; rfl)) ?_; (with_reducible refine (impl_areLive.calls k a0_0 a0_1 _ _ l1 _ _ y1303 true _ ?side1 ?side2 ?side3 ?side4 A5.out).mono ?_); (case side1 => repeat (first | exact (Kd.C_below HR1.out HB.out) | (with_reducible refine Kd.C_alloc ?_ _) | (with_reducible refine Kd.C_drewN ?_ _) | (with_reducible refine Kd.C_drew ?_))); (case side2 => exact HC1.out); (case side3 => repeat (first | exact (Kd.R_reads' HO1305.out).2.2 | (with_reducible refine Kd.C_alloc ?_ _) | (with_reducible refine Kd.C_drewN ?_ _) | (with_reducible refine Kd.C_drew ?_))); (case side4 => exact (Kd.R_reads' HO1305.out).2.1); rintro e w38 ⟨rfl, hb⟩; refine ⟨_, rfl, ?_⟩; have n0_ := Aside0.mk (Kd.R_below (by (with_reducible repeat (first | apply r_a | apply r_d | apply r_e)); exact HO1305.out) hb); replace BK1302 := bbx hb BK1302; replace HB := bsx hb HB; clear HO1305; have HO1305 := n0_; clear n0_; (try clear hb); (try clear hb2); (try clear hk); (try clear hi); have hcz39_0 := cz0 BK1302; have hcz39_1 := cz1 BK1302; have hfz39_0 := blk_frozen BK1302.out 0; have hfz39_1 := blk_frozen BK1302.out 1) | ((with_reducible refine gate_callee (f := 145) rfl ?_); refine goesL_ (some 28) rfl rfl Try.func145 (by kernel_rfl) rfl #[.agg #[.int .i64 a0_0, .int .i64 a0_1], .slice A1 l1.length c1, .string a3] rfl (by (try simp only [m_1, m_2, m_3]); first | done | rfl | (simp only [m_4, m_5]; rfl)) ?_; (with_reducible refine (impl_farOf.calls k a0_0 a0_1 _ _ l1 a3 t1307 t1308 t1309 t1312 _ ?side1 ?side2 A7.out).mono ?_); (case side1 => repeat (first | exact (Kd.C_below HR1.out HB.out) | (with_reducible refine Kd.C_alloc ?_ _) | (with_reducible refine Kd.C_drewN ?_ _) | (with_reducible refine Kd.C_drew ?_))); (case side2 => exact HC1.out); rintro e w40 ⟨v1310, v1313, rfl, ho0, ho1, hb⟩; refine ⟨_, rfl, ?_⟩; have n0_ := Aside0.mk (Kd.R_below (by (with_reducible repeat (first | apply r_a | apply r_d | apply r_e)); exact HO1305.out) hb); have n1_ := Aside0.mk (Kd.R_lower ho0 (below_size (bB HB))); have n2_ := Aside0.mk (Kd.R_lower ho1 (below_size (bB HB))); replace BK1302 := bbx hb BK1302; have n4_ := bsx hb HB; clear HO1305; clear HB; have HO1305 := n0_; have HO1311 := n1_; have HO1314 := n2_; have HB := n4_; clear n0_ n1_ n2_ n4_; (try clear hb); (try clear hb2); (try clear hk); (try clear hi); (try clear ho0); (try clear ho1)) | ((with_reducible refine gate_dst (N := 10) rfl ?_); refine box_event ?hg (N := 10) ?hd (cs := #[.int .i64 0, .int .i64 0, .slice none 0 0]) (t := 105) ?hr ?_; (case hd => rfl); (case hg => rfl); (case hr => first | (go_simp; done) | (go_simp; rfl)); intro gb1315 hg w41 hbox hb; have n0_ := Aside0.mk (Kd.R_below (by (with_reducible repeat (first | apply r_a | apply r_d | apply r_e)); exact HO1305.out) hb); have n1_ := Aside0.mk (Kd.R_below (by (with_reducible repeat (first | apply r_a | apply r_d | apply r_e)); exact HO1311.out) hb); have n2_ := Aside0.mk (Kd.R_below (by (with_reducible repeat (first | apply r_a | apply r_d | apply r_e)); exact HO1314.out) hb); have n3_ := bbx hb BK1302; have n4_ := bsx hb HB; have n5_ := Aside0.mk (hbox); have n6_ := gwx hg HB; have n7_ := gwx hg HB; have n8_ := nlx hg BK1302; have n9_ := ngx hg BK1302; clear HO1305; clear HO1311; clear HO1314; clear BK1302; clear HB; have HO1305 := n0_; have HO1311 := n1_; have HO1314 := n2_; have BK1302 := n3_; have HB := n4_; have BK1315 := n5_; have GW1315 := n6_; have GE1315 := n7_; have NB1302_1315 := n8_; have NB1315_1302 := n9_; clear n0_ n1_ n2_ n3_ n4_ n5_ n6_ n7_ n8_ n9_; clear hb hbox hg; have hnb42 := NB1315_1302.out; have hnc42 := NB1302_1315.out; have hcz43_0 : w41.cell? ⟨gb1315, 0, none⟩ = some (.int .i64 0) := (blk_cell BK1315.out 0).trans rfl; have hcz43_1 : w41.cell? ⟨gb1315, 1, none⟩ = some (.int .i64 0) := (blk_cell BK1315.out 1).trans rfl; have hcz43_2 : w41.cell? ⟨gb1315, 2, none⟩ = some (.slice none 0 0) := (blk_cell BK1315.out 2).trans rfl; have hfz43_0 := blk_frozen BK1315.out 0; have hfz43_1 := blk_frozen BK1315.out 1; have hfz43_2 := blk_frozen BK1315.out 2; obtain ⟨Ao44, co44, eo44⟩ := Kd.R_slice HO1311.out; subst eo44))
  have n0_ : Aside0 (Kd.R Kd.string 9 (((w41.setCell ⟨gb1315, 0, none⟩ (.int .i64 t1307)).setCell ⟨gb1315, 1, none⟩ (.int .i64 t1308)).setCell ⟨gb1315, 2, none⟩ (.slice Ao44 t1309.length co44)) w.heap.size (fun _ => True) (.slice Ao37 y1303.length co37) y1303) := ⟨by (with_reducible repeat (first | apply r_a | apply r_d | apply r_e)); exact Kd.R_mono (Kd.R_far (p := ⟨gb1315, 2, none⟩) (Kd.R_far (p := ⟨gb1315, 1, none⟩) (Kd.R_far (p := ⟨gb1315, 0, none⟩) (Kd.R_types HO1305.out BK1315.out (by decide)) (fun _ hk => hk.2) (.int .i64 t1307)) (fun _ hk => hk.2) (.int .i64 t1308)) (fun _ hk => hk.2) (.slice Ao44 t1309.length co44)) (fun _ hk => trivial)⟩
  have n1_ : Aside0 (Kd.R Kd.bool 4 (((w41.setCell ⟨gb1315, 0, none⟩ (.int .i64 t1307)).setCell ⟨gb1315, 1, none⟩ (.int .i64 t1308)).setCell ⟨gb1315, 2, none⟩ (.slice Ao44 t1309.length co44)) w.heap.size (fun _ => True) (.slice Ao44 t1309.length co44) t1309) := ⟨by (with_reducible repeat (first | apply r_a | apply r_d | apply r_e)); exact Kd.R_mono (Kd.R_far (p := ⟨gb1315, 2, none⟩) (Kd.R_far (p := ⟨gb1315, 1, none⟩) (Kd.R_far (p := ⟨gb1315, 0, none⟩) (Kd.R_types HO1311.out BK1315.out (by decide)) (fun _ hk => hk.2) (.int .i64 t1307)) (fun _ hk => hk.2) (.int .i64 t1308)) (fun _ hk => hk.2) (.slice Ao44 t1309.length co44)) (fun _ hk => trivial)⟩
  have n2_ : Aside0 (Kd.R (Kd.int .i64) 3 (((w41.setCell ⟨gb1315, 0, none⟩ (.int .i64 t1307)).setCell ⟨gb1315, 1, none⟩ (.int .i64 t1308)).setCell ⟨gb1315, 2, none⟩ (.slice Ao44 t1309.length co44)) w.heap.size (fun _ => True) v1313 t1312) := ⟨by (with_reducible repeat (first | apply r_a | apply r_d | apply r_e)); exact Kd.R_mono (Kd.R_far (p := ⟨gb1315, 2, none⟩) (Kd.R_far (p := ⟨gb1315, 1, none⟩) (Kd.R_far (p := ⟨gb1315, 0, none⟩) (Kd.R_types HO1314.out BK1315.out (by decide)) (fun _ hk => hk.2) (.int .i64 t1307)) (fun _ hk => hk.2) (.int .i64 t1308)) (fun _ hk => hk.2) (.slice Ao44 t1309.length co44)) (fun _ hk => trivial)⟩
  have n3_ : Aside0 ((((w41.setCell ⟨gb1315, 0, none⟩ (.int .i64 t1307)).setCell ⟨gb1315, 1, none⟩ (.int .i64 t1308)).setCell ⟨gb1315, 2, none⟩ (.slice Ao44 t1309.length co44)).heap[gb1302]? = some (.cells #[.int .i64 a0_0, .int .i64 a0_1] 28 (0, 0))) := ⟨bF⟩
  have n4_ : Aside0 ((((w41.setCell ⟨gb1315, 0, none⟩ (.int .i64 t1307)).setCell ⟨gb1315, 1, none⟩ (.int .i64 t1308)).setCell ⟨gb1315, 2, none⟩ (.slice Ao44 t1309.length co44)).heap[gb1315]? = some (.cells #[.int .i64 t1307, .int .i64 t1308, .slice Ao44 t1309.length co44] 105 (0, 0))) := ⟨by (with_reducible repeat (first | refine g_d ?_ _ | refine g_e ?_ | refine g_a ?_ _)); refine blk_put (cs := #[.int .i64 t1307, .int .i64 t1308, .slice none 0 0]) ?_ 2 _ rfl; (with_reducible repeat (first | refine g_d ?_ _ | refine g_e ?_ | refine g_a ?_ _)); refine blk_put (cs := #[.int .i64 t1307, .int .i64 0, .slice none 0 0]) ?_ 1 _ rfl; (with_reducible repeat (first | refine g_d ?_ _ | refine g_e ?_ | refine g_a ?_ _)); refine blk_put (cs := #[.int .i64 0, .int .i64 0, .slice none 0 0]) ?_ 0 _ rfl; (with_reducible repeat (first | refine g_d ?_ _ | refine g_e ?_ | refine g_a ?_ _)); exact BK1315.out⟩
  have n5_ : Aside0 (Below w.heap.size w (((w41.setCell ⟨gb1315, 0, none⟩ (.int .i64 t1307)).setCell ⟨gb1315, 1, none⟩ (.int .i64 t1308)).setCell ⟨gb1315, 2, none⟩ (.slice Ao44 t1309.length co44))) := ⟨bB HB⟩
  (try clear HO1305)
  (try clear HO1311)
  (try clear HO1314)
  (try clear BK1302)
  (try clear BK1315)
  (try clear HB)
  generalize (((w41.setCell ⟨gb1315, 0, none⟩ (.int .i64 t1307)).setCell ⟨gb1315, 1, none⟩ (.int .i64 t1308)).setCell ⟨gb1315, 2, none⟩ (.slice Ao44 t1309.length co44)) = w45 at n0_ n1_ n2_ n3_ n4_ n5_ ⊢
  have HO1305 := n0_
  have HO1311 := n1_
  have HO1314 := n2_
  have BK1302 := n3_
  have BK1315 := n4_
  have HB := n5_
  clear n0_ n1_ n2_ n3_ n4_ n5_
  have n0_ := Aside0.mk (r_e HO1305.out)
  have n1_ := Aside0.mk (r_e HO1311.out)
  have n2_ := Aside0.mk (r_e HO1314.out)
  have n3_ := Aside0.mk (g_e BK1302.out)
  have n4_ := Aside0.mk (g_e BK1315.out)
  have n5_ := Aside0.mk (b_e HB.out)
  clear HO1305
  clear HO1311
  clear HO1314
  clear BK1302
  clear BK1315
  clear HB
  have HO1305 := n0_
  have HO1311 := n1_
  have HO1314 := n2_
  have BK1302 := n3_
  have BK1315 := n4_
  have HB := n5_
  clear n0_ n1_ n2_ n3_ n4_ n5_
  refine start_ (n := 10) (S := fun w' => w'.cell? ⟨gb1302, 0, none⟩ = some (.int .i64 a0_0) ∧ w'.cell? ⟨gb1302, 1, none⟩ = some (.int .i64 a0_1)) (ds := []) (bs_ 10 0) (by kernel_rfl) rfl rfl ⟨(blk_cell BK1302.out 0).trans rfl, (blk_cell BK1302.out 1).trans rfl⟩ (fun hHeld => ?_); refine with_tabW impl_FirstAround.tab4 impl_FirstAround.bits4 (fun HT_ HW_ => ?_)
  generalize w45.drew = w46 at HO1305 HO1311 HO1314 BK1302 BK1315 HB hHeld ⊢
  refine pua 1 32 (bs_ 10 2) HT_ ?_
  refine pua 4 35 (bs_ 10 18) HT_ ?_
  refine tk_ 0 31 (bs_ 10 19) rfl rfl HT_ HW_ (by kernel_rfl) (fun _ _ _ h => h) (by rfl) hHeld (by rintro w' ⟨s0, s1⟩; go_simp; with_reducible rfl) (by simp only [Act.put, s_1, s_2, s_3, i64_w, i32_w]; rfl) ?_
  refine tk_ 5 36 (bs_ 10 51) rfl rfl HT_ HW_ (by kernel_rfl) (fun _ _ _ h => h) (by rfl) hHeld (by rintro w' ⟨s0, s1⟩; go_simp; with_reducible rfl) (by simp only [Act.put, s_1, s_2, s_3, i64_w, i32_w]; rfl) ?_
  refine join_ (σ := Value × Value) 2 (bs_ 10 255) (fun s_ => [(33, .int .i64 t1316), (34, s_.1), (37, s_.2), (12, .int .i64 t1316)]) (fun s_ w' => (w'.cell? ⟨gb1302, 0, none⟩ = some (.int .i64 a0_0) ∧ w'.cell? ⟨gb1302, 1, none⟩ = some (.int .i64 a0_1)) ∧ (Kd.R Kd.string 9 w' w.heap.size (fun _ => True) (.slice Ao37 y1303.length co37) y1303) ∧ (Kd.R Kd.bool 4 w' w.heap.size (fun _ => True) (.slice Ao44 t1309.length co44) t1309) ∧ (Kd.R (Kd.int .i64) 3 w' w.heap.size (fun _ => True) v1313 t1312) ∧ (Kd.R k66 66 w' w.heap.size (fun k_ => some k_ ≠ (s_.2 : Value).ownBlock) s_.1 y1317) ∧ (Kd.R k66 66 w' w.heap.size (fun k_ => some k_ ≠ (s_.1 : Value).ownBlock) s_.2 t1320) ∧ (w'.heap[gb1302]? = some (.cells #[.int .i64 a0_0, .int .i64 a0_1] 28 (0, 0))) ∧ (w'.heap[gb1315]? = some (.cells #[.int .i64 t1307, .int .i64 t1308, .slice Ao44 t1309.length co44] 105 (0, 0))) ∧ (Below w.heap.size w w')) ?_ ?_
  rotate_left
  · intro hCont
    refine two_ (i := 2) (j := 3) (Ni := some 33) (Nj := some 34) (bs_ 10 55) (bs_ 10 59) rfl rfl rfl rfl (two_of HT_.out (by kernel_rfl)) (by decide) (by decide) (fun K hK => ?_) (fun K hK => ?_)
    rotate_left
    · skip
      refine Kd.R_lit_step k66 _ 66 ?hg (N := 34) ?hd (xs := ([] : List (S66))) (inner := []) (ok := fun _ => True) (okp := fun _ => True) ?hr ?hp (fun _ hk => hk) trivial (Below.refl _ _) (Nat.le_refl _) (by simp) ?_; (case hd => rfl); (case hg => rfl); (case hr => first | (go_simp; done) | (go_simp; rfl)); (case hp => exact (Reps.none _ _))
      intro v1318 w47 ho48 hb hg_ hnew_
      clear hg_ hnew_
      (first | rw [← Ny1317.out] at ho48 | (simp only [Int.reduceToNat] at ho48; rw [← Ny1317.out] at ho48))
      have n0_ := Aside0.mk (Kd.R_below (by (with_reducible repeat (first | apply r_a | apply r_d | apply r_e)); exact HO1305.out) hb)
      have n1_ := Aside0.mk (Kd.R_below (by (with_reducible repeat (first | apply r_a | apply r_d | apply r_e)); exact HO1311.out) hb)
      have n2_ := Aside0.mk (Kd.R_below (by (with_reducible repeat (first | apply r_a | apply r_d | apply r_e)); exact HO1314.out) hb)
      have n3_ := Aside0.mk (Kd.R_lower ho48 (below_size (bB HB)))
      have n4_ := bbx hb BK1302
      have n5_ := bbx hb BK1315
      have n6_ := bsx hb HB
      clear HO1305
      clear HO1311
      clear HO1314
      clear BK1302
      clear BK1315
      clear HB
      have HO1305 := n0_
      have HO1311 := n1_
      have HO1314 := n2_
      have HO1319 := n3_
      have BK1302 := n4_
      have BK1315 := n5_
      have HB := n6_
      clear n0_ n1_ n2_ n3_ n4_ n5_ n6_
      clear hb ho48
      refine hK.out _ _ ⟨(blk_cell BK1302.out 0).trans rfl, (blk_cell BK1302.out 1).trans rfl⟩ (fun hHeld => ?_)
      clear hK K
      refine norm_ (a' := ?_) ?_ ?_
      rotate_left
      · show Act.put _ (some 34) _ = _
        simp only [Act.put, s_1, s_2, s_3, i64_w, i32_w]
        rfl
      refine one_ (i := 2) (N := some 33) (bs_ 10 63) rfl rfl (one_of HT_.out (by kernel_rfl)) (by decide) (fun K hK => ?_)
      refine goes_ Try.func68 (by kernel_rfl) rfl #[.agg #[.int .i64 a0_0, .int .i64 a0_1], .string a2] (by rfl) rfl rfl (by (try simp only [m_1, m_2, m_3]); first | done | rfl | (simp only [m_4, m_5]; rfl)) ?_
      with_reducible refine (impl_Lock_number.calls k a0_0 a0_1 a2 t1316 _ A8.out).mono ?_
      rintro e w49 ⟨rfl, hb⟩
      refine ⟨_, rfl, ?_⟩
      have n0_ := Aside0.mk (Kd.R_below (by (with_reducible repeat (first | apply r_a | apply r_d | apply r_e)); exact HO1305.out) hb)
      have n1_ := Aside0.mk (Kd.R_below (by (with_reducible repeat (first | apply r_a | apply r_d | apply r_e)); exact HO1311.out) hb)
      have n2_ := Aside0.mk (Kd.R_below (by (with_reducible repeat (first | apply r_a | apply r_d | apply r_e)); exact HO1314.out) hb)
      have n3_ := Aside0.mk (Kd.R_below (by (with_reducible repeat (first | apply r_a | apply r_d | apply r_e)); exact HO1319.out) hb)
      have n4_ := bbx hb BK1302
      have n5_ := bbx hb BK1315
      have n6_ := bsx hb HB
      clear HO1305
      clear HO1311
      clear HO1314
      clear HO1319
      clear BK1302
      clear BK1315
      clear HB
      have HO1305 := n0_
      have HO1311 := n1_
      have HO1314 := n2_
      have HO1319 := n3_
      have BK1302 := n4_
      have BK1315 := n5_
      have HB := n6_
      clear n0_ n1_ n2_ n3_ n4_ n5_ n6_
      (try clear hb)
      (try clear hb2)
      (try clear hk)
      (try clear hi)
      refine hK.out _ _ ⟨(blk_cell BK1302.out 0).trans rfl, (blk_cell BK1302.out 1).trans rfl⟩ (fun hHeld => ?_)
      clear hK K
      refine norm_ (a' := ?_) ?_ ?_
      rotate_left
      · show Act.put _ (some 33) _ = _
        simp only [Act.put, s_1, s_2, s_3, i64_w, i32_w]
        rfl
      refine one_ (i := 6) (N := some 37) (bs_ 10 127) rfl rfl (one_of HT_.out (by kernel_rfl)) (by decide) (fun K hK => ?_)
      refine goes_ Try.func69 (by kernel_rfl) rfl #[.int .i64 a0_0] (by rfl) rfl rfl (by (try simp only [m_1, m_2, m_3]); first | done | rfl | (simp only [m_4, m_5]; rfl)) ?_
      with_reducible refine (impl_turns.calls k a0_0 t1320 _ A9.out).mono ?_
      rintro e w50 ⟨v1321, rfl, ho0, hb⟩
      refine ⟨_, rfl, ?_⟩
      have n0_ := Aside0.mk (Kd.R_below (by (with_reducible repeat (first | apply r_a | apply r_d | apply r_e)); exact HO1305.out) hb)
      have n1_ := Aside0.mk (Kd.R_below (by (with_reducible repeat (first | apply r_a | apply r_d | apply r_e)); exact HO1311.out) hb)
      have n2_ := Aside0.mk (Kd.R_below (by (with_reducible repeat (first | apply r_a | apply r_d | apply r_e)); exact HO1314.out) hb)
      have n3_ := Aside0.mk (Kd.R_elder' (by (with_reducible repeat (first | apply r_a | apply r_d | apply r_e)); exact HO1319.out) (Kd.R_base ho0) hb)
      have n4_ := Aside0.mk (Kd.R_lower (Kd.R_new' ho0 (Kd.R_lt (by (with_reducible repeat (first | apply r_a | apply r_d | apply r_e)); exact HO1319.out))) (below_size (bB HB)))
      have n5_ := bbx hb BK1302
      have n6_ := bbx hb BK1315
      have n7_ := bsx hb HB
      clear HO1305
      clear HO1311
      clear HO1314
      clear HO1319
      clear BK1302
      clear BK1315
      clear HB
      have HO1305 := n0_
      have HO1311 := n1_
      have HO1314 := n2_
      have HO1319 := n3_
      have HO1322 := n4_
      have BK1302 := n5_
      have BK1315 := n6_
      have HB := n7_
      clear n0_ n1_ n2_ n3_ n4_ n5_ n6_ n7_
      (try clear hb)
      (try clear hb2)
      (try clear hk)
      (try clear hi)
      (try clear ho0)
      refine hK.out _ _ ⟨(blk_cell BK1302.out 0).trans rfl, (blk_cell BK1302.out 1).trans rfl⟩ (fun hHeld => ?_)
      clear hK K
      refine norm_ (a' := ?_) ?_ ?_
      rotate_left
      · show Act.put _ (some 37) _ = _
        simp only [Act.put, s_1, s_2, s_3, i64_w, i32_w]
        rfl
      refine pua 7 12 (bs_ 10 255) HT_ ?_
      exact norm_ (by simp only [putAll, Act.put, s_1, s_2, s_3]) (hCont (v1318, v1321) _ ⟨hHeld, (by (with_reducible repeat (first | apply r_a | apply r_d | apply r_e)); exact HO1305.out), (by (with_reducible repeat (first | apply r_a | apply r_d | apply r_e)); exact HO1311.out), (by (with_reducible repeat (first | apply r_a | apply r_d | apply r_e)); exact HO1314.out), (by (with_reducible repeat (first | apply r_a | apply r_d | apply r_e)); exact Kd.R_mono HO1319.out (fun _ hk => hk.2)), (by (with_reducible repeat (first | apply r_a | apply r_d | apply r_e)); exact Kd.R_mono HO1322.out (fun _ hk => hk.2)), (bK BK1302), (bK BK1315), (bB HB)⟩)
    skip
    refine goes_ Try.func68 (by kernel_rfl) rfl #[.agg #[.int .i64 a0_0, .int .i64 a0_1], .string a2] (by rfl) rfl rfl (by (try simp only [m_1, m_2, m_3]); first | done | rfl | (simp only [m_4, m_5]; rfl)) ?_
    with_reducible refine (impl_Lock_number.calls k a0_0 a0_1 a2 t1316 _ A8.out).mono ?_
    rintro e w47 ⟨rfl, hb⟩
    refine ⟨_, rfl, ?_⟩
    have n0_ := Aside0.mk (Kd.R_below (by (with_reducible repeat (first | apply r_a | apply r_d | apply r_e)); exact HO1305.out) hb)
    have n1_ := Aside0.mk (Kd.R_below (by (with_reducible repeat (first | apply r_a | apply r_d | apply r_e)); exact HO1311.out) hb)
    have n2_ := Aside0.mk (Kd.R_below (by (with_reducible repeat (first | apply r_a | apply r_d | apply r_e)); exact HO1314.out) hb)
    have n3_ := bbx hb BK1302
    have n4_ := bbx hb BK1315
    have n5_ := bsx hb HB
    clear HO1305
    clear HO1311
    clear HO1314
    clear BK1302
    clear BK1315
    clear HB
    have HO1305 := n0_
    have HO1311 := n1_
    have HO1314 := n2_
    have BK1302 := n3_
    have BK1315 := n4_
    have HB := n5_
    clear n0_ n1_ n2_ n3_ n4_ n5_
    (try clear hb)
    (try clear hb2)
    (try clear hk)
    (try clear hi)
    refine hK.out _ _ ⟨(blk_cell BK1302.out 0).trans rfl, (blk_cell BK1302.out 1).trans rfl⟩ (fun hHeld => ?_)
    clear hK K
    refine norm_ (a' := ?_) ?_ ?_
    rotate_left
    · show Act.put _ (some 33) _ = _
      simp only [Act.put, s_1, s_2, s_3, i64_w, i32_w]
      rfl
    refine two_ (i := 3) (j := 6) (Ni := some 34) (Nj := some 37) (bs_ 10 63) (bs_ 10 119) rfl rfl rfl rfl (two_of HT_.out (by kernel_rfl)) (by decide) (by decide) (fun K hK => ?_) (fun K hK => ?_)
    rotate_left
    · skip
      refine goes_ Try.func69 (by kernel_rfl) rfl #[.int .i64 a0_0] (by rfl) rfl rfl (by (try simp only [m_1, m_2, m_3]); first | done | rfl | (simp only [m_4, m_5]; rfl)) ?_
      with_reducible refine (impl_turns.calls k a0_0 t1320 _ A9.out).mono ?_
      rintro e w48 ⟨v1321, rfl, ho0, hb⟩
      refine ⟨_, rfl, ?_⟩
      have n0_ := Aside0.mk (Kd.R_below (by (with_reducible repeat (first | apply r_a | apply r_d | apply r_e)); exact HO1305.out) hb)
      have n1_ := Aside0.mk (Kd.R_below (by (with_reducible repeat (first | apply r_a | apply r_d | apply r_e)); exact HO1311.out) hb)
      have n2_ := Aside0.mk (Kd.R_below (by (with_reducible repeat (first | apply r_a | apply r_d | apply r_e)); exact HO1314.out) hb)
      have n3_ := Aside0.mk (Kd.R_lower ho0 (below_size (bB HB)))
      have n4_ := bbx hb BK1302
      have n5_ := bbx hb BK1315
      have n6_ := bsx hb HB
      clear HO1305
      clear HO1311
      clear HO1314
      clear BK1302
      clear BK1315
      clear HB
      have HO1305 := n0_
      have HO1311 := n1_
      have HO1314 := n2_
      have HO1322 := n3_
      have BK1302 := n4_
      have BK1315 := n5_
      have HB := n6_
      clear n0_ n1_ n2_ n3_ n4_ n5_ n6_
      (try clear hb)
      (try clear hb2)
      (try clear hk)
      (try clear hi)
      (try clear ho0)
      refine hK.out _ _ ⟨(blk_cell BK1302.out 0).trans rfl, (blk_cell BK1302.out 1).trans rfl⟩ (fun hHeld => ?_)
      clear hK K
      refine norm_ (a' := ?_) ?_ ?_
      rotate_left
      · show Act.put _ (some 37) _ = _
        simp only [Act.put, s_1, s_2, s_3, i64_w, i32_w]
        rfl
      refine pua 7 12 (bs_ 10 247) HT_ ?_
      refine one_ (i := 3) (N := some 34) (bs_ 10 255) rfl rfl (one_of HT_.out (by kernel_rfl)) (by decide) (fun K hK => ?_)
      refine Kd.R_lit_step k66 _ 66 ?hg (N := 34) ?hd (xs := ([] : List (S66))) (inner := []) (ok := fun _ => True) (okp := fun _ => True) ?hr ?hp (fun _ hk => hk) trivial (Below.refl _ _) (Nat.le_refl _) (by simp) ?_; (case hd => rfl); (case hg => rfl); (case hr => first | (go_simp; done) | (go_simp; rfl)); (case hp => exact (Reps.none _ _))
      intro v1318 w49 ho50 hb hg_ hnew_
      clear hg_ hnew_
      (first | rw [← Ny1317.out] at ho50 | (simp only [Int.reduceToNat] at ho50; rw [← Ny1317.out] at ho50))
      have n0_ := Aside0.mk (Kd.R_below (by (with_reducible repeat (first | apply r_a | apply r_d | apply r_e)); exact HO1305.out) hb)
      have n1_ := Aside0.mk (Kd.R_below (by (with_reducible repeat (first | apply r_a | apply r_d | apply r_e)); exact HO1311.out) hb)
      have n2_ := Aside0.mk (Kd.R_below (by (with_reducible repeat (first | apply r_a | apply r_d | apply r_e)); exact HO1314.out) hb)
      have n3_ := Aside0.mk (Kd.R_elder' (by (with_reducible repeat (first | apply r_a | apply r_d | apply r_e)); exact HO1322.out) (Kd.R_base ho50) hb)
      have n4_ := Aside0.mk (Kd.R_lower (Kd.R_new' ho50 (Kd.R_lt (by (with_reducible repeat (first | apply r_a | apply r_d | apply r_e)); exact HO1322.out))) (below_size (bB HB)))
      have n5_ := bbx hb BK1302
      have n6_ := bbx hb BK1315
      have n7_ := bsx hb HB
      clear HO1305
      clear HO1311
      clear HO1314
      clear HO1322
      clear BK1302
      clear BK1315
      clear HB
      have HO1305 := n0_
      have HO1311 := n1_
      have HO1314 := n2_
      have HO1322 := n3_
      have HO1319 := n4_
      have BK1302 := n5_
      have BK1315 := n6_
      have HB := n7_
      clear n0_ n1_ n2_ n3_ n4_ n5_ n6_ n7_
      clear hb ho50
      refine hK.out _ _ ⟨(blk_cell BK1302.out 0).trans rfl, (blk_cell BK1302.out 1).trans rfl⟩ (fun hHeld => ?_)
      clear hK K
      refine norm_ (a' := ?_) ?_ ?_
      rotate_left
      · show Act.put _ (some 34) _ = _
        simp only [Act.put, s_1, s_2, s_3, i64_w, i32_w]
        rfl
      exact norm_ (by simp only [putAll, Act.put, s_1, s_2, s_3]) (hCont (v1318, v1321) _ ⟨hHeld, (by (with_reducible repeat (first | apply r_a | apply r_d | apply r_e)); exact HO1305.out), (by (with_reducible repeat (first | apply r_a | apply r_d | apply r_e)); exact HO1311.out), (by (with_reducible repeat (first | apply r_a | apply r_d | apply r_e)); exact HO1314.out), (by (with_reducible repeat (first | apply r_a | apply r_d | apply r_e)); exact Kd.R_mono HO1319.out (fun _ hk => hk.2)), (by (with_reducible repeat (first | apply r_a | apply r_d | apply r_e)); exact Kd.R_mono HO1322.out (fun _ hk => hk.2)), (bK BK1302), (bK BK1315), (bB HB)⟩)
    skip
    refine Kd.R_lit_step k66 _ 66 ?hg (N := 34) ?hd (xs := ([] : List (S66))) (inner := []) (ok := fun _ => True) (okp := fun _ => True) ?hr ?hp (fun _ hk => hk) trivial (Below.refl _ _) (Nat.le_refl _) (by simp) ?_; (case hd => rfl); (case hg => rfl); (case hr => first | (go_simp; done) | (go_simp; rfl)); (case hp => exact (Reps.none _ _))
    intro v1318 w48 ho49 hb hg_ hnew_
    clear hg_ hnew_
    (first | rw [← Ny1317.out] at ho49 | (simp only [Int.reduceToNat] at ho49; rw [← Ny1317.out] at ho49))
    have n0_ := Aside0.mk (Kd.R_below (by (with_reducible repeat (first | apply r_a | apply r_d | apply r_e)); exact HO1305.out) hb)
    have n1_ := Aside0.mk (Kd.R_below (by (with_reducible repeat (first | apply r_a | apply r_d | apply r_e)); exact HO1311.out) hb)
    have n2_ := Aside0.mk (Kd.R_below (by (with_reducible repeat (first | apply r_a | apply r_d | apply r_e)); exact HO1314.out) hb)
    have n3_ := Aside0.mk (Kd.R_lower ho49 (below_size (bB HB)))
    have n4_ := bbx hb BK1302
    have n5_ := bbx hb BK1315
    have n6_ := bsx hb HB
    clear HO1305
    clear HO1311
    clear HO1314
    clear BK1302
    clear BK1315
    clear HB
    have HO1305 := n0_
    have HO1311 := n1_
    have HO1314 := n2_
    have HO1319 := n3_
    have BK1302 := n4_
    have BK1315 := n5_
    have HB := n6_
    clear n0_ n1_ n2_ n3_ n4_ n5_ n6_
    clear hb ho49
    refine hK.out _ _ ⟨(blk_cell BK1302.out 0).trans rfl, (blk_cell BK1302.out 1).trans rfl⟩ (fun hHeld => ?_)
    clear hK K
    refine norm_ (a' := ?_) ?_ ?_
    rotate_left
    · show Act.put _ (some 34) _ = _
      simp only [Act.put, s_1, s_2, s_3, i64_w, i32_w]
      rfl
    refine one_ (i := 6) (N := some 37) (bs_ 10 127) rfl rfl (one_of HT_.out (by kernel_rfl)) (by decide) (fun K hK => ?_)
    refine goes_ Try.func69 (by kernel_rfl) rfl #[.int .i64 a0_0] (by rfl) rfl rfl (by (try simp only [m_1, m_2, m_3]); first | done | rfl | (simp only [m_4, m_5]; rfl)) ?_
    with_reducible refine (impl_turns.calls k a0_0 t1320 _ A9.out).mono ?_
    rintro e w50 ⟨v1321, rfl, ho0, hb⟩
    refine ⟨_, rfl, ?_⟩
    have n0_ := Aside0.mk (Kd.R_below (by (with_reducible repeat (first | apply r_a | apply r_d | apply r_e)); exact HO1305.out) hb)
    have n1_ := Aside0.mk (Kd.R_below (by (with_reducible repeat (first | apply r_a | apply r_d | apply r_e)); exact HO1311.out) hb)
    have n2_ := Aside0.mk (Kd.R_below (by (with_reducible repeat (first | apply r_a | apply r_d | apply r_e)); exact HO1314.out) hb)
    have n3_ := Aside0.mk (Kd.R_elder' (by (with_reducible repeat (first | apply r_a | apply r_d | apply r_e)); exact HO1319.out) (Kd.R_base ho0) hb)
    have n4_ := Aside0.mk (Kd.R_lower (Kd.R_new' ho0 (Kd.R_lt (by (with_reducible repeat (first | apply r_a | apply r_d | apply r_e)); exact HO1319.out))) (below_size (bB HB)))
    have n5_ := bbx hb BK1302
    have n6_ := bbx hb BK1315
    have n7_ := bsx hb HB
    clear HO1305
    clear HO1311
    clear HO1314
    clear HO1319
    clear BK1302
    clear BK1315
    clear HB
    have HO1305 := n0_
    have HO1311 := n1_
    have HO1314 := n2_
    have HO1319 := n3_
    have HO1322 := n4_
    have BK1302 := n5_
    have BK1315 := n6_
    have HB := n7_
    clear n0_ n1_ n2_ n3_ n4_ n5_ n6_ n7_
    (try clear hb)
    (try clear hb2)
    (try clear hk)
    (try clear hi)
    (try clear ho0)
    refine hK.out _ _ ⟨(blk_cell BK1302.out 0).trans rfl, (blk_cell BK1302.out 1).trans rfl⟩ (fun hHeld => ?_)
    clear hK K
    refine norm_ (a' := ?_) ?_ ?_
    rotate_left
    · show Act.put _ (some 37) _ = _
      simp only [Act.put, s_1, s_2, s_3, i64_w, i32_w]
      rfl
    refine pua 7 12 (bs_ 10 255) HT_ ?_
    exact norm_ (by simp only [putAll, Act.put, s_1, s_2, s_3]) (hCont (v1318, v1321) _ ⟨hHeld, (by (with_reducible repeat (first | apply r_a | apply r_d | apply r_e)); exact HO1305.out), (by (with_reducible repeat (first | apply r_a | apply r_d | apply r_e)); exact HO1311.out), (by (with_reducible repeat (first | apply r_a | apply r_d | apply r_e)); exact HO1314.out), (by (with_reducible repeat (first | apply r_a | apply r_d | apply r_e)); exact Kd.R_mono HO1319.out (fun _ hk => hk.2)), (by (with_reducible repeat (first | apply r_a | apply r_d | apply r_e)); exact Kd.R_mono HO1322.out (fun _ hk => hk.2)), (bK BK1302), (bK BK1315), (bB HB)⟩)
  rintro ⟨v1318, v1321⟩ w51 ⟨hS_, h0_, h1_, h2_, h3_, h4_, h5_, h6_, h7_⟩
  have n0_ : Aside0 (Kd.R Kd.string 9 w51 w.heap.size (fun _ => True) (.slice Ao37 y1303.length co37) y1303) := ⟨h0_⟩
  have n1_ : Aside0 (Kd.R Kd.bool 4 w51 w.heap.size (fun _ => True) (.slice Ao44 t1309.length co44) t1309) := ⟨h1_⟩
  have n2_ : Aside0 (Kd.R (Kd.int .i64) 3 w51 w.heap.size (fun _ => True) v1313 t1312) := ⟨h2_⟩
  have n3_ : Aside0 (Kd.R k66 66 w51 w.heap.size (fun k_ => some k_ ≠ (v1321 : Value).ownBlock) v1318 y1317) := ⟨h3_⟩
  have n4_ : Aside0 (Kd.R k66 66 w51 w.heap.size (fun k_ => some k_ ≠ (v1318 : Value).ownBlock) v1321 t1320) := ⟨h4_⟩
  have n5_ : Aside0 (w51.heap[gb1302]? = some (.cells #[.int .i64 a0_0, .int .i64 a0_1] 28 (0, 0))) := ⟨h5_⟩
  have n6_ : Aside0 (w51.heap[gb1315]? = some (.cells #[.int .i64 t1307, .int .i64 t1308, .slice Ao44 t1309.length co44] 105 (0, 0))) := ⟨h6_⟩
  have n7_ : Aside0 (Below w.heap.size w w51) := ⟨h7_⟩
  clear HO1305
  clear HO1311
  clear HO1314
  clear BK1302
  clear BK1315
  clear HB
  clear h0_ h1_ h2_ h3_ h4_ h5_ h6_ h7_
  have HO1305 := n0_
  have HO1311 := n1_
  have HO1314 := n2_
  have HO1319 := n3_
  have HO1322 := n4_
  have BK1302 := n5_
  have BK1315 := n6_
  have HB := n7_
  clear n0_ n1_ n2_ n3_ n4_ n5_ n6_ n7_
  have hHeld : w51.cell? ⟨gb1302, 0, none⟩ = some (.int .i64 a0_0) ∧ w51.cell? ⟨gb1302, 1, none⟩ = some (.int .i64 a0_1) := hS_
  refine norm_ (a' := ?_) ?_ ?_
  rotate_left
  · simp only [putAll, Act.put, s_1, s_2, s_3]
    rfl
  refine pua 8 13 (bs_ 10 511) HT_ ?_
  refine pua 9 14 (bs_ 10 1023) HT_ ?_
  refine done_ (done_of HT_.out (by kernel_rfl)) ?_
  obtain ⟨Ao52, co52, eo52⟩ := Kd.R_slice HO1314.out
  subst eo52
  have p1323 : 0 ≤ (t1316 : Int) := of_decide_eq_true (by first | (with_reducible assumption) | assumption)
  have q1323 : t1316 < (t1312.length : Int) := of_decide_eq_true (by first | (with_reducible assumption) | assumption)
  obtain ⟨ad1323, e1323, hx1323_0⟩ := Kd.at_int (Kd.R_reads' HO1314.out).2.2 t1316 p1323 q1323
  cases e1323
  replace p1323 := eq_true p1323
  replace q1323 := eq_true q1323
  try go_wp2
  go_loopg [12, 13] k (fun kq v12 v13 w' => ∃ (x12_1 : Int) (x13_1 : List (S66)), v12 = .int .i64 x12_1 ∧ Aside0 (impl_FirstAround.l0 kq t1312 x12_1 x13_1 t1320 t1307 t1308 t1309 = some (r1, r2)) ∧ Aside0 (kq ≤ k) ∧ Aside0 (Kd.R (Kd.int .i64) 3 w' w.heap.size (fun _ => True) (.slice (some ad1323) t1312.length co52) t1312) ∧ Aside0 (Kd.R k66 66 w' w.heap.size (fun k_ => some k_ ≠ (v1321 : Value).ownBlock) v13 x13_1) ∧ Aside0 (Kd.R k66 66 w' w.heap.size (fun k_ => some k_ ≠ (v13 : Value).ownBlock) v1321 t1320) ∧ Aside0 (Kd.R Kd.bool 4 w' w.heap.size (fun _ => True) (.slice Ao44 t1309.length co44) t1309) ∧ Aside0 (w'.heap[gb1302]? = some (.cells #[.int .i64 a0_0, .int .i64 a0_1] 28 (0, 0))) ∧ Aside0 (w'.heap[gb1315]? = some (.cells #[.int .i64 t1307, .int .i64 t1308, (.slice Ao44 t1309.length co44)] 105 (0, 0))) ∧ Aside0 (Below w.heap.size w w'))
  case atStart => refine ⟨(t1316), (y1317), (by first | rfl | (simp; done) | (simp [*]; done)), H', ⟨Nat.le_refl _⟩, ⟨?_⟩, ⟨?_⟩, ⟨?_⟩, ⟨?_⟩, ⟨?_⟩, ⟨?_⟩, ⟨bB HB⟩⟩ <;> (with_reducible repeat (first | refine g_d ?_ _ | refine g_e ?_ | refine g_a ?_ _ | apply r_a | apply r_d | apply r_e)) <;> first | exact BK1302.out | exact BK1315.out | exact HO1314.out | exact HO1319.out | exact HO1322.out | exact HO1311.out
  clear H'
  try clear c1
  try clear c6
  try clear c12
  try clear c12b0
  try clear hcz34_0
  try clear hcz34_1
  try clear hcz39_0
  try clear hcz39_1
  try clear hcz43_0
  try clear hcz43_1
  try clear hcz43_2
  try clear hfz34_0
  try clear hfz34_1
  try clear hfz39_0
  try clear hfz39_1
  try clear hfz43_0
  try clear hfz43_1
  try clear hfz43_2
  try clear hx1323_0
  try clear p1323
  try clear q1323
  obtain ⟨x12_1, x13_1, rfl, HA, HK1, HO_11, HO_13, HO_14, HO_1316002, BK1302, BK1315, HB⟩ := hrel
  rcases gk with _ | k1
  · exact absurd HA.out (by simp [impl_FirstAround.l0])
  have H := HA.out
  clear HA
  simp only [impl_FirstAround.l0] at H
  by_cases c53 : 0 ≤ x12_1
  rotate_left
  · rw [if_neg c53] at H
    exact absurd H (by simp)
  rw [if_pos c53] at H
  have c53b0 : decide (0 ≤ x12_1) = true := decide_eq_true c53
  clear c53
  by_cases c54 : x12_1 < (t1312.length : Int)
  rotate_left
  · rw [if_neg c54] at H
    exact absurd H (by simp)
  rw [if_pos c54] at H
  have c54b0 : decide (x12_1 < (t1312.length : Int)) = true := decide_eq_true c54
  clear c54
  by_cases c55 : (rd t1312 x12_1) > 0
  rotate_left
  · rw [if_neg c55] at H
    have c55b0 : decide (0 < (rd t1312 x12_1)) = false := decide_eq_false c55
    clear c55
    simp only [Option.some.injEq, Prod.mk.injEq] at H
    obtain ⟨rfl, rfl⟩ := H
    have p1324 : 0 ≤ (x12_1 : Int) := of_decide_eq_true (by first | (with_reducible assumption) | assumption)
    have q1324 : x12_1 < (t1312.length : Int) := of_decide_eq_true (by first | (with_reducible assumption) | assumption)
    obtain ⟨ad1324, e1324, hx1324_0⟩ := Kd.at_int (Kd.R_reads' HO_11.out).2.2 x12_1 p1324 q1324
    obtain rfl : ad1323 = ad1324 := (by injection e1324)
    replace p1324 := eq_true p1324
    replace q1324 := eq_true q1324
    go_wp2
    go_ret2
    exact ⟨_, by first | rfl | (simp [errW_none, errW_some] <;> rfl) | (simp [*, errW_none, errW_some] <;> rfl), by (with_reducible repeat (first | apply r_a | apply r_d | apply r_e)); exact Kd.R_mono HO_13.out (fun _ hk => trivial), bB HB⟩
  rw [if_pos c55] at H
  have c55b0 : decide (0 < (rd t1312 x12_1)) = true := decide_eq_true c55
  clear c55
  replace H := Option.bind_eq_some_iff.mp H
  obtain ⟨t1325, A560, H⟩ := H
  try dsimp only at H
  have A56 := Aside0.mk A560
  clear A560
  have H' := Aside0.mk H
  clear H
  have p1324 : 0 ≤ (x12_1 : Int) := of_decide_eq_true (by first | (with_reducible assumption) | assumption)
  have q1324 : x12_1 < (t1312.length : Int) := of_decide_eq_true (by first | (with_reducible assumption) | assumption)
  obtain ⟨ad1324, e1324, hx1324_0⟩ := Kd.at_int (Kd.R_reads' HO_11.out).2.2 x12_1 p1324 q1324
  obtain rfl : ad1323 = ad1324 := (by injection e1324)
  replace p1324 := eq_true p1324
  replace q1324 := eq_true q1324
  have hnb57 := NB1315_1302.out
  have hnc57 := NB1302_1315.out
  have hcz58_0 : wr.cell? ⟨gb1315, 0, none⟩ = some (.int .i64 t1307) := (blk_cell BK1315.out 0).trans rfl
  have hcz58_1 : wr.cell? ⟨gb1315, 1, none⟩ = some (.int .i64 t1308) := (blk_cell BK1315.out 1).trans rfl
  have hcz58_2 : wr.cell? ⟨gb1315, 2, none⟩ = some (.slice Ao44 t1309.length co44) := (blk_cell BK1315.out 2).trans rfl
  have hfz58_0 := blk_frozen BK1315.out 0
  have hfz58_1 := blk_frozen BK1315.out 1
  have hfz58_2 := blk_frozen BK1315.out 2
  go_wp2_with (first | ((with_reducible refine gate_callee (f := 146) rfl ?_); refine goesL_ (some 50) rfl rfl Try.func146 (by kernel_rfl) rfl #[.agg #[.int .i64 t1307, .int .i64 t1308, .slice Ao44 t1309.length co44], .int .i64 x12_1] rfl (by (try simp only [m_1, m_2, m_3]); first | done | rfl | (simp only [m_4, m_5]; rfl)) ?_; (with_reducible refine (impl_field_steps.calls k1 t1307 t1308 _ _ t1309 x12_1 t1325 _ ?side1 ?side2 A56.out).mono ?_); (case side1 => repeat (first | exact (Kd.R_reads' HO_1316002.out).2.2 | (with_reducible refine Kd.C_alloc ?_ _) | (with_reducible refine Kd.C_drewN ?_ _) | (with_reducible refine Kd.C_drew ?_))); (case side2 => exact (Kd.R_reads' HO_1316002.out).2.1); rintro e w59 ⟨v1326, rfl, ho0, hb⟩; refine ⟨_, rfl, ?_⟩; have n0_ := Aside0.mk (Kd.R_elder' (by (with_reducible repeat (first | apply r_a | apply r_d | apply r_e)); exact HO_11.out) (Kd.R_base ho0) hb); have n1_ := Aside0.mk (Kd.R_below (by (with_reducible repeat (first | apply r_a | apply r_d | apply r_e)); exact HO_13.out) hb); have n2_ := Aside0.mk (Kd.R_below (by (with_reducible repeat (first | apply r_a | apply r_d | apply r_e)); exact HO_14.out) hb); have n3_ := Aside0.mk (Kd.R_below (by (with_reducible repeat (first | apply r_a | apply r_d | apply r_e)); exact HO_1316002.out) hb); have n4_ := Aside0.mk (Kd.R_lower (Kd.R_new' ho0 (Kd.R_lt (by (with_reducible repeat (first | apply r_a | apply r_d | apply r_e)); exact HO_11.out))) (below_size (bB HB))); replace BK1302 := bbx hb BK1302; replace BK1315 := bbx hb BK1315; have n7_ := bsx hb HB; clear HO_11; clear HO_13; clear HO_14; clear HO_1316002; clear HB; have HO_11 := n0_; have HO_13 := n1_; have HO_14 := n2_; have HO_1316002 := n3_; have HO1327 := n4_; have HB := n7_; clear n0_ n1_ n2_ n3_ n4_ n7_; (try clear hb); (try clear hb2); (try clear hk); (try clear hi); (try clear ho0); obtain ⟨Ao60, co60, eo60⟩ := Kd.R_slice HO1327.out; subst eo60))
  go_loopg [12, 13, 52] k1 (fun kq v12 v13 v52 w' => ∃ (x12_2 : Int) (x13_2 : List (S66)) (x52_2 : Int), v12 = .int .i64 x12_2 ∧ v52 = .int .i64 x52_2 ∧ Aside0 (impl_FirstAround.l1 kq t1312 x12_2 x13_2 t1320 t1325 (t1325.length : Int) x52_2 t1307 t1308 t1309 = some (r1, r2)) ∧ Aside0 (kq ≤ k1) ∧ Aside0 (Kd.R (Kd.int .i64) 3 w' w.heap.size (fun k_ => some k_ ≠ ((.slice Ao60 t1325.length co60) : Value).ownBlock) (.slice (some ad1323) t1312.length co52) t1312) ∧ Aside0 (Kd.R k66 66 w' w.heap.size (fun k_ => some k_ ≠ (v1321 : Value).ownBlock) v13 x13_2) ∧ Aside0 (Kd.R k66 66 w' w.heap.size (fun k_ => some k_ ≠ (v13 : Value).ownBlock) v1321 t1320) ∧ Aside0 (Kd.R (Kd.int .i64) 3 w' w.heap.size (fun k_ => some k_ ≠ ((.slice (some ad1323) t1312.length co52) : Value).ownBlock) (.slice Ao60 t1325.length co60) t1325) ∧ Aside0 (Kd.R Kd.bool 4 w' w.heap.size (fun _ => True) (.slice Ao44 t1309.length co44) t1309) ∧ Aside0 (w'.heap[gb1302]? = some (.cells #[.int .i64 a0_0, .int .i64 a0_1] 28 (0, 0))) ∧ Aside0 (w'.heap[gb1315]? = some (.cells #[.int .i64 t1307, .int .i64 t1308, (.slice Ao44 t1309.length co44)] 105 (0, 0))) ∧ Aside0 (Below w.heap.size w w'))
  case atStart => refine ⟨(x12_1), (x13_1), (0), (by first | rfl | (simp; done) | (simp [*]; done)), (by first | rfl | (simp; done) | (simp [*]; done)), H', ⟨Nat.le_refl _⟩, ⟨by (with_reducible repeat (first | apply r_a | apply r_d | apply r_e)); exact Kd.R_mono HO_11.out (fun _ hk => hk.2)⟩, ⟨?_⟩, ⟨?_⟩, ⟨by (with_reducible repeat (first | apply r_a | apply r_d | apply r_e)); exact Kd.R_mono HO1327.out (fun _ hk => hk.2)⟩, ⟨?_⟩, ⟨?_⟩, ⟨?_⟩, ⟨bB HB⟩⟩ <;> (with_reducible repeat (first | refine g_d ?_ _ | refine g_e ?_ | refine g_a ?_ _ | apply r_a | apply r_d | apply r_e)) <;> first | exact BK1302.out | exact BK1315.out | exact HO_13.out | exact HO_14.out | exact HO_1316002.out
  clear H'
  try clear c53
  try clear c53b0
  try clear c54
  try clear c54b0
  try clear c55
  try clear c55b0
  try clear hcz58_0
  try clear hcz58_1
  try clear hcz58_2
  try clear hfz58_0
  try clear hfz58_1
  try clear hfz58_2
  try clear hx1324_0
  try clear p1324
  try clear q1324
  obtain ⟨x12_2, x13_2, x52_2, rfl, rfl, HA, HK2, HO_11, HO_13, HO_14, HO_50, HO_1316002, BK1302, BK1315, HB⟩ := hrel
  rcases gk with _ | k2
  · exact absurd HA.out (by simp [impl_FirstAround.l1])
  have H := HA.out
  clear HA
  simp only [impl_FirstAround.l1] at H
  by_cases c61 : x52_2 < (t1325.length : Int)
  rotate_left
  · rw [if_neg c61] at H
    have c61b0 : decide (x52_2 < (t1325.length : Int)) = false := decide_eq_false c61
    clear c61
    have H' := Aside0.mk H
    clear H
    go_wp2
    go_roundg k2
    case measure => have := HK1.out; have := HK2.out; omega
    case rel => refine ⟨(x12_2), (x13_2), (by first | rfl | (simp; done) | (simp [*]; done)), H', ⟨by have := HK1.out; have := HK2.out; omega⟩, ⟨by (with_reducible repeat (first | apply r_a | apply r_d | apply r_e)); exact Kd.R_mono HO_11.out (fun _ hk => trivial)⟩, ⟨?_⟩, ⟨?_⟩, ⟨?_⟩, ⟨?_⟩, ⟨?_⟩, ⟨bB HB⟩⟩ <;> (with_reducible repeat (first | refine g_d ?_ _ | refine g_e ?_ | refine g_a ?_ _ | apply r_a | apply r_d | apply r_e)) <;> first | exact BK1302.out | exact BK1315.out | exact HO_13.out | exact HO_14.out | exact HO_1316002.out
  rw [if_pos c61] at H
  have c61b0 : decide (x52_2 < (t1325.length : Int)) = true := decide_eq_true c61
  clear c61
  by_cases c62 : 0 ≤ x52_2
  rotate_left
  · rw [if_neg c62] at H
    exact absurd H (by simp)
  rw [if_pos c62] at H
  have c62b0 : decide (0 ≤ x52_2) = true := decide_eq_true c62
  clear c62
  by_cases c63 : x52_2 < (t1325.length : Int)
  rotate_left
  · rw [if_neg c63] at H
    exact absurd H (by simp)
  rw [if_pos c63] at H
  have c63b0 : decide (x52_2 < (t1325.length : Int)) = true := decide_eq_true c63
  clear c63
  by_cases c64 : 0 ≤ (rd t1325 x52_2)
  rotate_left
  · rw [if_neg c64] at H
    exact absurd H (by simp)
  rw [if_pos c64] at H
  have c64b0 : decide (0 ≤ (rd t1325 x52_2)) = true := decide_eq_true c64
  clear c64
  by_cases c65 : (rd t1325 x52_2) < (t1312.length : Int)
  rotate_left
  · rw [if_neg c65] at H
    exact absurd H (by simp)
  rw [if_pos c65] at H
  have c65b0 : decide ((rd t1325 x52_2) < (t1312.length : Int)) = true := decide_eq_true c65
  clear c65
  by_cases c66 : (rd t1312 (rd t1325 x52_2)) ≥ 0
  rotate_left
  · rw [if_neg c66] at H
    have c66b0 : decide (0 ≤ (rd t1312 (rd t1325 x52_2))) = false := decide_eq_false c66
    clear c66
    have H' := Aside0.mk H
    clear H
    have p1328 : 0 ≤ (x52_2 : Int) := of_decide_eq_true (by first | (with_reducible assumption) | assumption)
    have q1328 : x52_2 < (t1325.length : Int) := of_decide_eq_true (by first | (with_reducible assumption) | assumption)
    obtain ⟨ad1328, e1328, hx1328_0⟩ := Kd.at_int (Kd.R_reads' HO_50.out).2.2 x52_2 p1328 q1328
    cases e1328
    replace p1328 := eq_true p1328
    replace q1328 := eq_true q1328
    try go_wp2
    have n0_ := Aside0.mk (r_e HO_11.out)
    have n1_ := Aside0.mk (r_e HO_13.out)
    have n2_ := Aside0.mk (r_e HO_14.out)
    have n3_ := Aside0.mk (r_e HO_50.out)
    have n4_ := Aside0.mk (r_e HO_1316002.out)
    have n5_ := Aside0.mk (g_e BK1302.out)
    have n6_ := Aside0.mk (g_e BK1315.out)
    have n7_ := Aside0.mk (b_e HB.out)
    clear HO_11
    clear HO_13
    clear HO_14
    clear HO_50
    clear HO_1316002
    clear BK1302
    clear BK1315
    clear HB
    have HO_11 := n0_
    have HO_13 := n1_
    have HO_14 := n2_
    have HO_50 := n3_
    have HO_1316002 := n4_
    have BK1302 := n5_
    have BK1315 := n6_
    have HB := n7_
    clear n0_ n1_ n2_ n3_ n4_ n5_ n6_ n7_
    have p1329 : 0 ≤ ((rd t1325 x52_2) : Int) := of_decide_eq_true (by first | (with_reducible assumption) | assumption)
    have q1329 : (rd t1325 x52_2) < (t1312.length : Int) := of_decide_eq_true (by first | (with_reducible assumption) | assumption)
    obtain ⟨ad1329, e1329, hx1329_0⟩ := Kd.at_int (Kd.R_reads' HO_11.out).2.2 (rd t1325 x52_2) p1329 q1329
    obtain rfl : ad1323 = ad1329 := (by injection e1329)
    replace p1329 := eq_true p1329
    replace q1329 := eq_true q1329
    refine start_ (n := 16) (S := fun w' => w'.cell? (ad1323.add ((rd t1325 x52_2)).toNat) = some (.int .i64 (rd t1312 (rd t1325 x52_2)))) (ds := []) (bs_ 16 0) (by kernel_rfl) rfl rfl (hx1329_0) (fun hHeld => ?_); refine with_tabW impl_FirstAround.tab11 impl_FirstAround.bits11 (fun HT_ HW_ => ?_)
    generalize wr.drew = w76 at HO_11 HO_13 HO_14 HO_50 HO_1316002 BK1302 BK1315 HB hx1329_0 hHeld ⊢
    refine pua 0 57 (bs_ 16 1) HT_ ?_
    refine pua 1 58 (bs_ 16 3) HT_ ?_
    refine pua 2 59 (bs_ 16 7) HT_ ?_
    refine take_ (i := 3) (N := some 60) (v := ?_) (a' := ?_) (bs_ 16 15) rfl rfl (take_ofW HT_.out HW_.out (by kernel_rfl)) (fun _ _ _ h => h) (Or.inl ⟨by rfl, ?_⟩) hHeld ?_ ?_
    rotate_left
    · intro w' s0
      go_simp
      with_reducible rfl
    rotate_left
    · simp only [Act.put, s_1, s_2, s_3, i64_w, i32_w]
      rfl
    refine pua 4 61 (bs_ 16 31) HT_ ?_
    refine pua 5 62 (bs_ 16 63) HT_ ?_
    refine pv_ 6 63 (bs_ 16 127) rfl rfl HT_ (by kernel_rfl) (fun _ _ _ h => h) (by rfl) (by simp only [Act.put, s_1, s_2, s_3, i64_w, i32_w]; rfl) ?_
    refine pv_ 7 64 (bs_ 16 255) rfl rfl HT_ (by kernel_rfl) (fun _ _ _ h => h) (by rfl) (by simp only [Act.put, s_1, s_2, s_3, i64_w, i32_w]; rfl) ?_
    refine pv_ 8 65 (bs_ 16 511) rfl rfl HT_ (by kernel_rfl) (fun _ _ _ h => h) (by rfl) (by simp only [Act.put, s_1, s_2, s_3, i64_w, i32_w]; rfl) ?_
    refine pv_ 9 66 (bs_ 16 1023) rfl rfl HT_ (by kernel_rfl) (fun _ _ _ h => h) (by rfl) (by simp only [Act.put, s_1, s_2, s_3, i64_w, i32_w]; rfl) ?_
    refine pv_ 10 67 (bs_ 16 2047) rfl rfl HT_ (by kernel_rfl) (fun _ _ _ h => h) (by rfl) (by simp only [Act.put, s_1, s_2, s_3, i64_w, i32_w]; rfl) ?_
    refine pv_ 11 68 (bs_ 16 4095) rfl rfl HT_ (by kernel_rfl) (fun _ _ _ h => h) (by rfl) (by simp only [Act.put, s_1, s_2, s_3, i64_w, i32_w]; rfl) ?_
    refine pv_ 12 69 (bs_ 16 8191) rfl rfl HT_ (by kernel_rfl) (fun _ _ _ h => h) (by rfl) (by simp only [Act.put, s_1, s_2, s_3, i64_w, i32_w]; rfl) ?_
    refine pv_ 13 70 (bs_ 16 16383) rfl rfl HT_ (by kernel_rfl) (fun _ _ _ h => h) (by rfl) (by simp only [Act.put, s_1, s_2, s_3, i64_w, i32_w]; rfl) ?_
    refine pv_ 14 71 (bs_ 16 32767) rfl rfl HT_ (by kernel_rfl) (fun _ _ _ h => h) (by rfl) (by simp only [Act.put, s_1, s_2, s_3, i64_w, i32_w]; rfl) ?_
    refine pua 15 72 (bs_ 16 65535) HT_ ?_
    refine done_ (done_of HT_.out (by kernel_rfl)) ?_
    try go_wp2
    go_roundg k2
    case measure => have := HK1.out; have := HK2.out; omega
    case rel => refine ⟨(x12_2), (x13_2), (wrap64 (x52_2 + 1)), (by first | rfl | (simp; done) | (simp [*]; done)), (by first | rfl | (simp; done) | (simp [*]; done)), H', ⟨by have := HK1.out; have := HK2.out; omega⟩, ⟨?_⟩, ⟨?_⟩, ⟨?_⟩, ⟨?_⟩, ⟨?_⟩, ⟨?_⟩, ⟨?_⟩, ⟨bB HB⟩⟩ <;> (with_reducible repeat (first | refine g_d ?_ _ | refine g_e ?_ | refine g_a ?_ _ | apply r_a | apply r_d | apply r_e)) <;> first | exact BK1302.out | exact BK1315.out | exact HO_11.out | exact HO_13.out | exact HO_14.out | exact HO_50.out | exact HO_1316002.out
  rw [if_pos c66] at H
  have c66b0 : decide (0 ≤ (rd t1312 (rd t1325 x52_2))) = true := decide_eq_true c66
  clear c66
  by_cases c67 : 0 ≤ x12_2
  rotate_left
  · rw [if_neg c67] at H
    exact absurd H (by simp)
  rw [if_pos c67] at H
  have c67b0 : decide (0 ≤ x12_2) = true := decide_eq_true c67
  clear c67
  by_cases c68 : x12_2 < (t1312.length : Int)
  rotate_left
  · rw [if_neg c68] at H
    exact absurd H (by simp)
  rw [if_pos c68] at H
  have c68b0 : decide (x12_2 < (t1312.length : Int)) = true := decide_eq_true c68
  clear c68
  by_cases c69 : (rd t1312 (rd t1325 x52_2)) < (rd t1312 x12_2)
  rotate_left
  · rw [if_neg c69] at H
    have c69b0 : decide ((rd t1312 (rd t1325 x52_2)) < (rd t1312 x12_2)) = false := decide_eq_false c69
    clear c69
    have H' := Aside0.mk H
    clear H
    have p1328 : 0 ≤ (x52_2 : Int) := of_decide_eq_true (by first | (with_reducible assumption) | assumption)
    have q1328 : x52_2 < (t1325.length : Int) := of_decide_eq_true (by first | (with_reducible assumption) | assumption)
    obtain ⟨ad1328, e1328, hx1328_0⟩ := Kd.at_int (Kd.R_reads' HO_50.out).2.2 x52_2 p1328 q1328
    cases e1328
    replace p1328 := eq_true p1328
    replace q1328 := eq_true q1328
    try go_wp2
    have n0_ := Aside0.mk (r_e HO_11.out)
    have n1_ := Aside0.mk (r_e HO_13.out)
    have n2_ := Aside0.mk (r_e HO_14.out)
    have n3_ := Aside0.mk (r_e HO_50.out)
    have n4_ := Aside0.mk (r_e HO_1316002.out)
    have n5_ := Aside0.mk (g_e BK1302.out)
    have n6_ := Aside0.mk (g_e BK1315.out)
    have n7_ := Aside0.mk (b_e HB.out)
    clear HO_11
    clear HO_13
    clear HO_14
    clear HO_50
    clear HO_1316002
    clear BK1302
    clear BK1315
    clear HB
    have HO_11 := n0_
    have HO_13 := n1_
    have HO_14 := n2_
    have HO_50 := n3_
    have HO_1316002 := n4_
    have BK1302 := n5_
    have BK1315 := n6_
    have HB := n7_
    clear n0_ n1_ n2_ n3_ n4_ n5_ n6_ n7_
    have p1329 : 0 ≤ ((rd t1325 x52_2) : Int) := of_decide_eq_true (by first | (with_reducible assumption) | assumption)
    have q1329 : (rd t1325 x52_2) < (t1312.length : Int) := of_decide_eq_true (by first | (with_reducible assumption) | assumption)
    obtain ⟨ad1329, e1329, hx1329_0⟩ := Kd.at_int (Kd.R_reads' HO_11.out).2.2 (rd t1325 x52_2) p1329 q1329
    obtain rfl : ad1323 = ad1329 := (by injection e1329)
    replace p1329 := eq_true p1329
    replace q1329 := eq_true q1329
    have p1330 : 0 ≤ ((rd t1325 x52_2) : Int) := of_decide_eq_true (by first | (with_reducible assumption) | assumption)
    have q1330 : (rd t1325 x52_2) < (t1312.length : Int) := of_decide_eq_true (by first | (with_reducible assumption) | assumption)
    obtain ⟨ad1330, e1330, hx1330_0⟩ := Kd.at_int (Kd.R_reads' HO_11.out).2.2 (rd t1325 x52_2) p1330 q1330
    obtain rfl : ad1323 = ad1330 := (by injection e1330)
    replace p1330 := eq_true p1330
    replace q1330 := eq_true q1330
    have p1331 : 0 ≤ (x12_2 : Int) := of_decide_eq_true (by first | (with_reducible assumption) | assumption)
    have q1331 : x12_2 < (t1312.length : Int) := of_decide_eq_true (by first | (with_reducible assumption) | assumption)
    obtain ⟨ad1331, e1331, hx1331_0⟩ := Kd.at_int (Kd.R_reads' HO_11.out).2.2 x12_2 p1331 q1331
    obtain rfl : ad1323 = ad1331 := (by injection e1331)
    replace p1331 := eq_true p1331
    replace q1331 := eq_true q1331
    refine start_ (n := 16) (S := fun w' => w'.cell? (ad1323.add ((rd t1325 x52_2)).toNat) = some (.int .i64 (rd t1312 (rd t1325 x52_2))) ∧ w'.cell? (ad1323.add ((rd t1325 x52_2)).toNat) = some (.int .i64 (rd t1312 (rd t1325 x52_2))) ∧ w'.cell? (ad1323.add (x12_2).toNat) = some (.int .i64 (rd t1312 x12_2))) (ds := []) (bs_ 16 0) (by kernel_rfl) rfl rfl ⟨hx1329_0, hx1330_0, hx1331_0⟩ (fun hHeld => ?_); refine with_tabW impl_FirstAround.tab11 impl_FirstAround.bits11 (fun HT_ HW_ => ?_)
    generalize wr.drew = w75 at HO_11 HO_13 HO_14 HO_50 HO_1316002 BK1302 BK1315 HB hx1329_0 hx1330_0 hx1331_0 hHeld ⊢
    refine pua 0 57 (bs_ 16 1) HT_ ?_
    refine pua 1 58 (bs_ 16 3) HT_ ?_
    refine pua 2 59 (bs_ 16 7) HT_ ?_
    refine tk_ 3 60 (bs_ 16 15) rfl rfl HT_ HW_ (by kernel_rfl) (fun _ _ _ h => h) (by rfl) hHeld (by rintro w' ⟨s0, s1, s2⟩; go_simp; with_reducible rfl) (by simp only [Act.put, s_1, s_2, s_3, i64_w, i32_w]; rfl) ?_
    refine pua 4 61 (bs_ 16 31) HT_ ?_
    refine pua 5 62 (bs_ 16 63) HT_ ?_
    refine pua 6 63 (bs_ 16 127) HT_ ?_
    refine pua 7 64 (bs_ 16 255) HT_ ?_
    refine pua 8 65 (bs_ 16 511) HT_ ?_
    refine pua 10 67 (bs_ 16 1535) HT_ ?_
    refine pua 11 68 (bs_ 16 3583) HT_ ?_
    refine pua 12 69 (bs_ 16 7679) HT_ ?_
    refine tk_ 9 66 (bs_ 16 8191) rfl rfl HT_ HW_ (by kernel_rfl) (fun _ _ _ h => h) (by rfl) hHeld (by rintro w' ⟨s0, s1, s2⟩; go_simp; with_reducible rfl) (by simp only [Act.put, s_1, s_2, s_3, i64_w, i32_w]; rfl) ?_
    refine tk_ 13 70 (bs_ 16 16383) rfl rfl HT_ HW_ (by kernel_rfl) (fun _ _ _ h => h) (by rfl) hHeld (by rintro w' ⟨s0, s1, s2⟩; go_simp; with_reducible rfl) (by simp only [Act.put, s_1, s_2, s_3, i64_w, i32_w]; rfl) ?_
    refine pua 14 71 (bs_ 16 32767) HT_ ?_
    refine pua 15 72 (bs_ 16 65535) HT_ ?_
    refine done_ (done_of HT_.out (by kernel_rfl)) ?_
    try go_wp2
    go_roundg k2
    case measure => have := HK1.out; have := HK2.out; omega
    case rel => refine ⟨(x12_2), (x13_2), (wrap64 (x52_2 + 1)), (by first | rfl | (simp; done) | (simp [*]; done)), (by first | rfl | (simp; done) | (simp [*]; done)), H', ⟨by have := HK1.out; have := HK2.out; omega⟩, ⟨?_⟩, ⟨?_⟩, ⟨?_⟩, ⟨?_⟩, ⟨?_⟩, ⟨?_⟩, ⟨?_⟩, ⟨bB HB⟩⟩ <;> (with_reducible repeat (first | refine g_d ?_ _ | refine g_e ?_ | refine g_a ?_ _ | apply r_a | apply r_d | apply r_e)) <;> first | exact BK1302.out | exact BK1315.out | exact HO_11.out | exact HO_13.out | exact HO_14.out | exact HO_50.out | exact HO_1316002.out
  rw [if_pos c69] at H
  have c69b0 : decide ((rd t1312 (rd t1325 x52_2)) < (rd t1312 x12_2)) = true := decide_eq_true c69
  clear c69
  by_cases c70 : x52_2 < (t1320.length : Int)
  rotate_left
  · rw [if_neg c70] at H
    exact absurd H (by simp)
  rw [if_pos c70] at H
  have c70b0 : decide (x52_2 < (t1320.length : Int)) = true := decide_eq_true c70
  clear c70
  by_cases c71 : x13_2.length < 8796093022208
  rotate_left
  · rw [if_neg c71] at H
    exact absurd H (by simp)
  rw [if_pos c71] at H
  have LMc71 := Aside0.mk c71
  clear c71
  obtain ⟨y1333, hy1333⟩ : ∃ y_ : List (S66), y_ = (x13_2 ++ [(⟨(rd_T66 t1320 x52_2).f0, (rd_T66 t1320 x52_2).f1⟩ : S66)]) := ⟨_, rfl⟩
  replace H : (impl_FirstAround.l0 k2 t1312 (rd t1325 x52_2) y1333 t1320 t1307 t1308 t1309) = some (r1, r2) := by first | (rw [hy1333]; with_reducible exact H) | (have H2_ := (Option.bind_some _ _).symm.trans H; rw [hy1333]; with_reducible exact H2_) | (have H2_ := (Option.bind_some _ _).symm.trans H; with_reducible exact H2_) | with_reducible exact H | (rw [hy1333]; exact H) | exact H
  have Ny1333 := Aside0.mk hy1333
  clear hy1333
  have H' := Aside0.mk H
  clear H
  have p1328 : 0 ≤ (x52_2 : Int) := of_decide_eq_true (by first | (with_reducible assumption) | assumption)
  have q1328 : x52_2 < (t1325.length : Int) := of_decide_eq_true (by first | (with_reducible assumption) | assumption)
  obtain ⟨ad1328, e1328, hx1328_0⟩ := Kd.at_int (Kd.R_reads' HO_50.out).2.2 x52_2 p1328 q1328
  cases e1328
  replace p1328 := eq_true p1328
  replace q1328 := eq_true q1328
  try go_wp2
  have n0_ := Aside0.mk (r_e HO_11.out)
  have n1_ := Aside0.mk (r_e HO_13.out)
  have n2_ := Aside0.mk (r_e HO_14.out)
  have n3_ := Aside0.mk (r_e HO_50.out)
  have n4_ := Aside0.mk (r_e HO_1316002.out)
  have n5_ := Aside0.mk (g_e BK1302.out)
  have n6_ := Aside0.mk (g_e BK1315.out)
  have n7_ := Aside0.mk (b_e HB.out)
  clear HO_11
  clear HO_13
  clear HO_14
  clear HO_50
  clear HO_1316002
  clear BK1302
  clear BK1315
  clear HB
  have HO_11 := n0_
  have HO_13 := n1_
  have HO_14 := n2_
  have HO_50 := n3_
  have HO_1316002 := n4_
  have BK1302 := n5_
  have BK1315 := n6_
  have HB := n7_
  clear n0_ n1_ n2_ n3_ n4_ n5_ n6_ n7_
  have p1329 : 0 ≤ ((rd t1325 x52_2) : Int) := of_decide_eq_true (by first | (with_reducible assumption) | assumption)
  have q1329 : (rd t1325 x52_2) < (t1312.length : Int) := of_decide_eq_true (by first | (with_reducible assumption) | assumption)
  obtain ⟨ad1329, e1329, hx1329_0⟩ := Kd.at_int (Kd.R_reads' HO_11.out).2.2 (rd t1325 x52_2) p1329 q1329
  obtain rfl : ad1323 = ad1329 := (by injection e1329)
  replace p1329 := eq_true p1329
  replace q1329 := eq_true q1329
  have p1330 : 0 ≤ ((rd t1325 x52_2) : Int) := of_decide_eq_true (by first | (with_reducible assumption) | assumption)
  have q1330 : (rd t1325 x52_2) < (t1312.length : Int) := of_decide_eq_true (by first | (with_reducible assumption) | assumption)
  obtain ⟨ad1330, e1330, hx1330_0⟩ := Kd.at_int (Kd.R_reads' HO_11.out).2.2 (rd t1325 x52_2) p1330 q1330
  obtain rfl : ad1323 = ad1330 := (by injection e1330)
  replace p1330 := eq_true p1330
  replace q1330 := eq_true q1330
  have p1331 : 0 ≤ (x12_2 : Int) := of_decide_eq_true (by first | (with_reducible assumption) | assumption)
  have q1331 : x12_2 < (t1312.length : Int) := of_decide_eq_true (by first | (with_reducible assumption) | assumption)
  obtain ⟨ad1331, e1331, hx1331_0⟩ := Kd.at_int (Kd.R_reads' HO_11.out).2.2 x12_2 p1331 q1331
  obtain rfl : ad1323 = ad1331 := (by injection e1331)
  replace p1331 := eq_true p1331
  replace q1331 := eq_true q1331
  refine start_ (n := 16) (S := fun w' => w'.cell? (ad1323.add ((rd t1325 x52_2)).toNat) = some (.int .i64 (rd t1312 (rd t1325 x52_2))) ∧ w'.cell? (ad1323.add ((rd t1325 x52_2)).toNat) = some (.int .i64 (rd t1312 (rd t1325 x52_2))) ∧ w'.cell? (ad1323.add (x12_2).toNat) = some (.int .i64 (rd t1312 x12_2))) (ds := []) (bs_ 16 0) (by kernel_rfl) rfl rfl ⟨hx1329_0, hx1330_0, hx1331_0⟩ (fun hHeld => ?_); refine with_tabW impl_FirstAround.tab11 impl_FirstAround.bits11 (fun HT_ HW_ => ?_)
  generalize wr.drew = w72 at HO_11 HO_13 HO_14 HO_50 HO_1316002 BK1302 BK1315 HB hx1329_0 hx1330_0 hx1331_0 hHeld ⊢
  refine pua 0 57 (bs_ 16 1) HT_ ?_
  refine pua 1 58 (bs_ 16 3) HT_ ?_
  refine pua 2 59 (bs_ 16 7) HT_ ?_
  refine tk_ 3 60 (bs_ 16 15) rfl rfl HT_ HW_ (by kernel_rfl) (fun _ _ _ h => h) (by rfl) hHeld (by rintro w' ⟨s0, s1, s2⟩; go_simp; with_reducible rfl) (by simp only [Act.put, s_1, s_2, s_3, i64_w, i32_w]; rfl) ?_
  refine pua 4 61 (bs_ 16 31) HT_ ?_
  refine pua 5 62 (bs_ 16 63) HT_ ?_
  refine pua 6 63 (bs_ 16 127) HT_ ?_
  refine pua 7 64 (bs_ 16 255) HT_ ?_
  refine pua 8 65 (bs_ 16 511) HT_ ?_
  refine pua 10 67 (bs_ 16 1535) HT_ ?_
  refine pua 11 68 (bs_ 16 3583) HT_ ?_
  refine pua 12 69 (bs_ 16 7679) HT_ ?_
  refine tk_ 9 66 (bs_ 16 8191) rfl rfl HT_ HW_ (by kernel_rfl) (fun _ _ _ h => h) (by rfl) hHeld (by rintro w' ⟨s0, s1, s2⟩; go_simp; with_reducible rfl) (by simp only [Act.put, s_1, s_2, s_3, i64_w, i32_w]; rfl) ?_
  refine tk_ 13 70 (bs_ 16 16383) rfl rfl HT_ HW_ (by kernel_rfl) (fun _ _ _ h => h) (by rfl) hHeld (by rintro w' ⟨s0, s1, s2⟩; go_simp; with_reducible rfl) (by simp only [Act.put, s_1, s_2, s_3, i64_w, i32_w]; rfl) ?_
  refine pua 14 71 (bs_ 16 32767) HT_ ?_
  refine pua 15 72 (bs_ 16 65535) HT_ ?_
  refine done_ (done_of HT_.out (by kernel_rfl)) ?_
  obtain ⟨Ao73, co73, eo73⟩ := Kd.R_slice HO_14.out
  subst eo73
  have p1332 : 0 ≤ (x52_2 : Int) := of_decide_eq_true (by first | (with_reducible assumption) | assumption)
  have q1332 : x52_2 < (t1320.length : Int) := of_decide_eq_true (by first | (with_reducible assumption) | assumption)
  obtain ⟨ad1332, e1332, hx1332_0, hx1332_1⟩ := at_T66 (Kd.R_reads' HO_14.out).2.2 x52_2 p1332 q1332
  cases e1332
  replace p1332 := eq_true p1332
  replace q1332 := eq_true q1332
  try go_wp2_with (first | ((with_reducible refine gate_builtin (b := .append) (xs := #[.tmp 73, .tmp 78]) rfl ?_); at_builtin; refine Kd.R_append k66 (w0 := w) w.heap.size rfl (.tmp 73) (.tmp 78) 33 66 (.agg #[(.int .i64 0), (.int .i64 0)]) 16 rfl Try.underlying33 info66 rfl (by decide) (by omega) u13 x13_2 (⟨(rd_T66 t1320 x52_2).f0, (rd_T66 t1320 x52_2).f1⟩ : S66) [.int .i64 ((rd_T66 t1320 x52_2).f0), .int .i64 ((rd_T66 t1320 x52_2).f1)] (fun k_ => some k_ ≠ (.slice (some ad1332) t1320.length co73 : Value).ownBlock) (fun _ => False) rfl rfl ?aP (fun _ hk => hk.elim) ?aF ?aO ?aB ?aS ?aL ?_; (case aP => exact k66_mkM _ _ _ (⟨(rd_T66 t1320 x52_2).f0, (rd_T66 t1320 x52_2).f1⟩ : S66)); (case aB => exact (bB HB)); (case aF => exact (fun k_ hk => Kd.fresh' (Kd.R_lt (by (with_reducible repeat (first | apply r_a | apply r_d | apply r_e)); exact HO_14.out)) k_ hk)); (case aO => exact (by (with_reducible repeat (first | apply r_a | apply r_d | apply r_e)); exact HO_13.out)); (case aS => exact (below_size (bB HB))); (case aL => have := LMc71.out; omega); intro v1334 w74 ho hb hg hat; rw [← Ny1333.out] at ho; have n0_ := Aside0.mk (Kd.R_over' (by (with_reducible repeat (first | apply r_a | apply r_d | apply r_e)); exact HO_11.out) (Kd.R_typed (by (with_reducible repeat (first | apply r_a | apply r_d | apply r_e)); exact HO_13.out)) (by decide) hg); have n1_ := Aside0.mk (Kd.R_after (ok := (fun _ => True)) (by (with_reducible repeat (first | apply r_a | apply r_d | apply r_e)); exact Kd.R_mono HO_14.out (fun _ hk => ⟨trivial, hk⟩)) hg hat); have n2_ := Aside0.mk (Kd.R_over' (by (with_reducible repeat (first | apply r_a | apply r_d | apply r_e)); exact HO_50.out) (Kd.R_typed (by (with_reducible repeat (first | apply r_a | apply r_d | apply r_e)); exact HO_13.out)) (by decide) hg); have n3_ := Aside0.mk (Kd.R_over' (by (with_reducible repeat (first | apply r_a | apply r_d | apply r_e)); exact HO_1316002.out) (Kd.R_typed (by (with_reducible repeat (first | apply r_a | apply r_d | apply r_e)); exact HO_13.out)) (by decide) hg); have n4_ := Aside0.mk (blk_grown (g := gb1302) (o := .cells #[.int .i64 a0_0, .int .i64 a0_1] 28 (0, 0)) (bK BK1302) hg (Kd.R_ne HO_13.out BK1302.out (by decide))); have n5_ := Aside0.mk (blk_grown (g := gb1315) (o := .cells #[.int .i64 t1307, .int .i64 t1308, .slice Ao44 t1309.length co44] 105 (0, 0)) (bK BK1315) hg (Kd.R_ne HO_13.out BK1315.out (by decide))); have n6_ := Aside0.mk (hb); have n7_ := Aside0.mk (ho); clear HO_11; clear HO_14; clear HO_50; clear HO_1316002; clear BK1302; clear BK1315; clear HB; clear HO_13; have HO_11 := n0_; have HO_14 := n1_; have HO_50 := n2_; have HO_1316002 := n3_; have BK1302 := n4_; have BK1315 := n5_; have HB := n6_; have HO1335 := n7_; clear n0_ n1_ n2_ n3_ n4_ n5_ n6_ n7_; clear ho hb hg hat))
  go_roundg k2
  case measure => have := HK1.out; have := HK2.out; omega
  case rel => refine ⟨(rd t1325 x52_2), (y1333), (by first | rfl | (simp; done) | (simp [*]; done)), H', ⟨by have := HK1.out; have := HK2.out; omega⟩, ⟨by (with_reducible repeat (first | apply r_a | apply r_d | apply r_e)); exact Kd.R_mono HO_11.out (fun _ hk => trivial)⟩, ⟨?_⟩, ⟨by (with_reducible repeat (first | apply r_a | apply r_d | apply r_e)); exact Kd.R_mono HO_14.out (fun _ hk => hk.2)⟩, ⟨?_⟩, ⟨?_⟩, ⟨?_⟩, ⟨bB HB⟩⟩ <;> (with_reducible repeat (first | refine g_d ?_ _ | refine g_e ?_ | refine g_a ?_ _ | apply r_a | apply r_d | apply r_e)) <;> first | exact BK1302.out | exact BK1315.out | exact HO1335.out | exact HO_1316002.out
end Go.Proofs.Ytihhiolflbieaaa.P
