-- Texts of this session's own program (wip/dr.py), which runs the kit's printer.
import Derived.Test.YtihhiolflbieaaaPx0
import Derived.Test.YtihhiolflbieaaaPx1
import Derived.Test.YtihhiolflbieaaaPx2
import Derived.Test.YtihhiolflbieaaaPx5
import Derived.Test.YtihhiolflbieaaaPx28
import Derived.Test.YtihhiolflbieaaaPx49
import Derived.Test.YtihhiolflbieaaaPx71
import Derived.Test.YtihhiolflbieaaaPx75
import Derived.Test.YtihhiolflbieaaaPx125
import Derived.Test.YtihhiolflbieaaaPx164
import Derived.Test.YtihhiolflbieaaaPx169
import Derived.Test.YtihhiolflbieaaaPx171
namespace Go.Proofs.Ytihhiolflbieaaa.P
open Go.RowKit Go.Proofs.YtihhiolflbieaaaW.PrintWords Go.Proofs.YtihhiolflbieaaaW.PrintLast Go.Proofs.YtihhiolflbieaaaW.PrintMore
attribute [local go_sem] max2_int min2_int max_two min_two max_three min_three max_four min_four   -- for this text's walks alone
set_option linter.unusedVariables false
set_option linter.unusedSimpArgs false

/-! ### impl_NeededCodes: function 48 -/
def impl_NeededCodes.l0 : Nat → ByteArray → ByteArray → List ByteArray → ByteArray → List (S66) → Int → Int → Int → Int → Int → Int → List Bool → Option (List ByteArray × Bool)
  | 0, _, _, _, _, _, _, _, _, _, _, _, _ => none
  | k + 1, x2, x3, x13, x14, x33, x34, x35, x1337000, x1337001, x1350000, x1350001, x1350002 => if x35 < x34 then (if 0 ≤ x35 then (if x35 < (x33.length : Int) then ((impl_Lock_turned.f k x1337000 x1337001 x14 ((rd_T66 x33 x35).f0) ((rd_T66 x33 x35).f1)).bind fun t1355 => (if t1355.toList = x3.toList then ((impl_sorted.f x13).bind fun t1356 => (some (t1356, true))) else ((impl_Lock_number.f k x1337000 x1337001 t1355).bind fun t1359 => (if 0 ≤ t1359 then (if t1359 < (x1350002.length : Int) then ((some (x1350002.set (t1359 : Int).toNat true : List Bool)).bind fun y1360 => ((impl_Lock_number.f k x1337000 x1337001 x2).bind fun t1361 => ((impl_field_far.f k x1350000 x1350001 y1360 t1361).bind fun t1362 => ((impl_Lock_number.f k x1337000 x1337001 x3).bind fun t1365 => (if 0 ≤ t1365 then (if t1365 < (t1362.length : Int) then (if (rd t1362 t1365) < 0 then (if x13.length < 8796093022208 then (impl_NeededCodes.l0 k x2 x3 (x13 ++ [t1355]) t1355 x33 x34 (wrap64 (x35 + 1)) x1337000 x1337001 x1350000 x1350001 (y1360.set (t1359 : Int).toNat false)) else (none)) else (impl_NeededCodes.l0 k x2 x3 x13 t1355 x33 x34 (wrap64 (x35 + 1)) x1337000 x1337001 x1350000 x1350001 (y1360.set (t1359 : Int).toNat false))) else (none)) else (none)))))) else (none)) else (none))))) else (none)) else (none)) else ((impl_sorted.f x13).bind fun t1350 => (some (t1350, true)))
def impl_NeededCodes.f (k : Nat) (a0_0 : Int) (a0_1 : Int) (l1 : List ByteArray) (a2 : ByteArray) (a3 : ByteArray) : Option (List ByteArray × Bool) := (impl_FirstAround.f k a0_0 a0_1 l1 a2 a3).bind fun bt1337 => (if bt1337.2 = true then ((impl_fieldOf.f k a0_0 a0_1 l1).bind fun bt1341 => (impl_NeededCodes.l0 k a2 a3 (([] : List ByteArray)) a2 bt1337.1 (bt1337.1.length : Int) 0 a0_0 a0_1 bt1341.1 bt1341.2.1 bt1341.2.2)) else (some (([] : List ByteArray), false)))
theorem impl_NeededCodes.mono_l : ∀ k, (∀ y0 y1 y2 y3 y4 y5 y6 y7 y8 y9 y10 y11, LeO (impl_NeededCodes.l0 k y0 y1 y2 y3 y4 y5 y6 y7 y8 y9 y10 y11) (impl_NeededCodes.l0 (k + 1) y0 y1 y2 y3 y4 y5 y6 y7 y8 y9 y10 y11))
  | 0 => fun _ _ _ _ _ _ _ _ _ _ _ _ r h => by simp [impl_NeededCodes.l0] at h
  | k + 1 => by
    have ih0 := impl_NeededCodes.mono_l k
    · intro y0 y1 y2 y3 y4 y5 y6 y7 y8 y9 y10 y11
      unfold impl_NeededCodes.l0
      repeat' first
      | (with_reducible exact ih0 _ _ _ _ _ _ _ _ _ _ _ _)
      | (with_reducible exact impl_FirstAround.mono _ _ _ _ _ _)
      | (with_reducible exact impl_Lock_number.mono _ _ _ _)
      | (with_reducible exact impl_Lock_turned.mono _ _ _ _ _ _)
      | (with_reducible exact impl_fieldOf.mono _ _ _ _)
      | (with_reducible exact impl_field_far.mono _ _ _ _ _)
      | (with_reducible exact LeO.refl _)
      | (with_reducible exact LeO.none _)
      | (with_reducible refine LeO.ite ?_ ?_)
      | (with_reducible refine LeO.bind ?_ (fun _ => ?_))
      | exact ih0 _ _ _ _ _ _ _ _ _ _ _ _
      | exact impl_FirstAround.mono _ _ _ _ _ _
      | exact impl_Lock_number.mono _ _ _ _
      | exact impl_Lock_turned.mono _ _ _ _ _ _
      | exact impl_fieldOf.mono _ _ _ _
      | exact impl_field_far.mono _ _ _ _ _
      | exact LeO.none _
      | refine LeO.ite ?_ ?_
      | refine LeO.bind ?_ (fun _ => ?_)
theorem impl_NeededCodes.mono : ∀ a0 a1 a2 a3 a4 k, LeO (impl_NeededCodes.f k a0 a1 a2 a3 a4) (impl_NeededCodes.f (k + 1) a0 a1 a2 a3 a4) := by
  intro a0 a1 a2 a3 a4 k
  have ih0 := impl_NeededCodes.mono_l k
  unfold impl_NeededCodes.f
  repeat' first
      | (with_reducible exact ih0 _ _ _ _ _ _ _ _ _ _ _ _)
      | (with_reducible exact impl_FirstAround.mono _ _ _ _ _ _)
      | (with_reducible exact impl_Lock_number.mono _ _ _ _)
      | (with_reducible exact impl_Lock_turned.mono _ _ _ _ _ _)
      | (with_reducible exact impl_fieldOf.mono _ _ _ _)
      | (with_reducible exact impl_field_far.mono _ _ _ _ _)
      | (with_reducible exact LeO.refl _)
      | (with_reducible exact LeO.none _)
      | (with_reducible refine LeO.ite ?_ ?_)
      | (with_reducible refine LeO.bind ?_ (fun _ => ?_))
      | exact ih0 _ _ _ _ _ _ _ _ _ _ _ _
      | exact impl_FirstAround.mono _ _ _ _ _ _
      | exact impl_Lock_number.mono _ _ _ _
      | exact impl_Lock_turned.mono _ _ _ _ _ _
      | exact impl_fieldOf.mono _ _ _ _
      | exact impl_field_far.mono _ _ _ _ _
      | exact LeO.none _
      | refine LeO.ite ?_ ?_
      | refine LeO.bind ?_ (fun _ => ?_)
def impl_NeededCodes.T12 : Bool × List (List Nat × List Nat) := (true, [([], []), ([], []), ([], []), ([1, 2], [1, 2]), ([0, 3, 3], [0, 3]), ([], []), ([], []), ([5, 6, 4], [5, 6]), ([4, 7], [4, 7]), ([8], [8]), ([9], [9])])
def impl_NeededCodes.B12 : List Nat := [0, 0, 0, 6, 15, 0, 0, 127, 255, 511, 1023]
theorem impl_NeededCodes.tab12 : rtab .any (opsOf Try.f48 12) = impl_NeededCodes.T12 := by kernel_rfl
theorem impl_NeededCodes.bits12 : waitsOk impl_NeededCodes.T12.2 impl_NeededCodes.B12 = true := by kernel_rfl
set_option maxHeartbeats 8000000 in
set_option maxRecDepth 100000 in
theorem impl_NeededCodes.calls (k : Nat) (a0_0 : Int) (a0_1 : Int) (A1 : Option Addr) (c1 : Nat) (l1 : List ByteArray) (a2 : ByteArray) (a3 : ByteArray) (r1 : List ByteArray) (r2 : Bool) (w : World) (hr1 : Kd.C Kd.string w A1 l1.length l1) (hc1 : l1.length ≤ c1) (h : impl_NeededCodes.f k a0_0 a0_1 l1 a2 a3 = some (r1, r2)) :
    Calls Try.prog 48 #[.agg #[.int .i64 a0_0, .int .i64 a0_1], .slice A1 l1.length c1, .string a2, .string a3] w fun e w' => ∃ v0_ : Value, e = .returned (.tuple #[v0_, .bool r2]) ∧ Kd.R Kd.string 9 w' w.heap.size (fun _ => True) v0_ r1 ∧ Below w.heap.size w w' := by
  have hu28 := Try.underlying28
  have hu105 := Try.underlying105
  have hu66 := Try.underlying66
  have HR1 := Aside0.mk hr1
  have HC1 := Aside0.mk hc1
  clear hr1 hc1
  have HB := Aside0.mk (Below.refl w.heap.size w)
  have H : ((impl_FirstAround.f k a0_0 a0_1 l1 a2 a3).bind fun bt1337 => (if bt1337.2 = true then ((impl_fieldOf.f k a0_0 a0_1 l1).bind fun bt1341 => (impl_NeededCodes.l0 k a2 a3 (([] : List ByteArray)) a2 bt1337.1 (bt1337.1.length : Int) 0 a0_0 a0_1 bt1341.1 bt1341.2.1 bt1341.2.2)) else (some (([] : List ByteArray), false)))) = some (r1, r2) := h
  clear h
  replace H := Option.bind_eq_some_iff.mp H
  obtain ⟨⟨t1337, t1340⟩, A50, H⟩ := H
  try dsimp only at H
  have A5 := Aside0.mk A50
  clear A50
  by_cases c6 : t1340 = true
  rotate_left
  · replace c6 := Bool.eq_false_iff.mpr c6
    subst c6
    rw [if_neg (show ¬ (false = true) by decide)] at H
    simp only [Option.some.injEq, Prod.mk.injEq] at H
    obtain ⟨rfl, rfl⟩ := H
    go_enter Try.func48, Try.ntmps48
    go_wp2_with (first | ((with_reducible refine gate_dst (N := 4) rfl ?_); refine box_event ?hg (N := 4) ?hd (cs := #[.int .i64 a0_0, .int .i64 a0_1]) (t := 28) ?hr ?_; (case hd => rfl); (case hg => rfl); (case hr => first | (go_simp; done) | (go_simp; rfl)); intro gb1336 hg w92 hbox hb; have n0_ := bsx hb HB; have n1_ := Aside0.mk (hbox); have n2_ := gwx hg HB; have n3_ := n2_; clear HB; have HB := n0_; have BK1336 := n1_; have GW1336 := n2_; have GE1336 := n3_; clear n0_ n1_ n2_ n3_; clear hb hbox hg; have hcz93_0 := cz0 BK1336; have hcz93_1 := cz1 BK1336; have hfz93_0 := blk_frozen BK1336.out 0; have hfz93_1 := blk_frozen BK1336.out 1) | ((with_reducible refine gate_callee (f := 97) rfl ?_); refine goesL_ (some 23) rfl rfl Try.func97 (by kernel_rfl) rfl #[.agg #[.int .i64 a0_0, .int .i64 a0_1], .slice A1 l1.length c1, .string a2, .string a3] rfl (by (try simp only [m_1, m_2, m_3]); first | done | rfl | (simp only [m_4, m_5]; rfl)) ?_; (with_reducible refine (impl_FirstAround.calls k a0_0 a0_1 _ _ l1 a2 a3 t1337 false _ ?side1 ?side2 A5.out).mono ?_); (case side1 => repeat (first | exact (Kd.C_below HR1.out HB.out) | (with_reducible refine Kd.C_alloc ?_ _) | (with_reducible refine Kd.C_drewN ?_ _) | (with_reducible refine Kd.C_drew ?_))); (case side2 => exact HC1.out); rintro e w94 ⟨v1338, rfl, ho0, hb⟩; refine ⟨_, rfl, ?_⟩; have n0_ := Aside0.mk (Kd.R_lower ho0 (below_size (bB HB))); replace BK1336 := bbx hb BK1336; have n2_ := bsx hb HB; clear HB; have HO1339 := n0_; have HB := n2_; clear n0_ n2_; (try clear hb); (try clear hb2); (try clear hk); (try clear hi); (try clear ho0)))
    go_ret2
    exact ⟨_, by first | rfl | (simp [errW_none, errW_some] <;> rfl) | (simp [*, errW_none, errW_some] <;> rfl), by first | exact Kd.R_nil _ _ _ _ _ | exact Kd.N_nil _ _ _ _ _ | exact Kd.V_nil _ _ _ _ _ | exact Kd.Q_nil _ _ _ _ _ | exact Kd.S_nil _ _ _ _ _, bB HB⟩

  subst c6
  rw [if_pos rfl] at H
  replace H := Option.bind_eq_some_iff.mp H
  obtain ⟨⟨t1341, t1342, t1343⟩, A70, H⟩ := H
  try dsimp only at H
  have A7 := Aside0.mk A70
  clear A70
  obtain ⟨y1346, hy1346⟩ : ∃ y_ : List ByteArray, y_ = (([] : List ByteArray)) := ⟨_, rfl⟩
  replace H : (impl_NeededCodes.l0 k a2 a3 y1346 a2 t1337 (t1337.length : Int) 0 a0_0 a0_1 t1341 t1342 t1343) = some (r1, r2) := by first | (rw [hy1346]; with_reducible exact H) | (have H2_ := (Option.bind_some _ _).symm.trans H; rw [hy1346]; with_reducible exact H2_) | (have H2_ := (Option.bind_some _ _).symm.trans H; with_reducible exact H2_) | with_reducible exact H | (rw [hy1346]; exact H) | exact H
  have Ny1346 := Aside0.mk hy1346
  clear hy1346
  have H' := Aside0.mk H
  clear H
  go_enter Try.func48, Try.ntmps48
  go_wp2_with (first | ((with_reducible refine gate_dst (N := 4) rfl ?_); refine box_event ?hg (N := 4) ?hd (cs := #[.int .i64 a0_0, .int .i64 a0_1]) (t := 28) ?hr ?_; (case hd => rfl); (case hg => rfl); (case hr => first | (go_simp; done) | (go_simp; rfl)); intro gb1336 hg w8 hbox hb; have n0_ := bsx hb HB; have n1_ := Aside0.mk (hbox); have n2_ := gwx hg HB; have n3_ := n2_; clear HB; have HB := n0_; have BK1336 := n1_; have GW1336 := n2_; have GE1336 := n3_; clear n0_ n1_ n2_ n3_; clear hb hbox hg; have hcz9_0 := cz0 BK1336; have hcz9_1 := cz1 BK1336; have hfz9_0 := blk_frozen BK1336.out 0; have hfz9_1 := blk_frozen BK1336.out 1) | ((with_reducible refine gate_callee (f := 97) rfl ?_); refine goesL_ (some 23) rfl rfl Try.func97 (by kernel_rfl) rfl #[.agg #[.int .i64 a0_0, .int .i64 a0_1], .slice A1 l1.length c1, .string a2, .string a3] rfl (by (try simp only [m_1, m_2, m_3]); first | done | rfl | (simp only [m_4, m_5]; rfl)) ?_; (with_reducible refine (impl_FirstAround.calls k a0_0 a0_1 _ _ l1 a2 a3 t1337 true _ ?side1 ?side2 A5.out).mono ?_); (case side1 => repeat (first | exact (Kd.C_below HR1.out HB.out) | (with_reducible refine Kd.C_alloc ?_ _) | (with_reducible refine Kd.C_drewN ?_ _) | (with_reducible refine Kd.C_drew ?_))); (case side2 => exact HC1.out); rintro e w10 ⟨v1338, rfl, ho0, hb⟩; refine ⟨_, rfl, ?_⟩; have n0_ := Aside0.mk (Kd.R_lower ho0 (below_size (bB HB))); replace BK1336 := bbx hb BK1336; have n2_ := bsx hb HB; clear HB; have HO1339 := n0_; have HB := n2_; clear n0_ n2_; (try clear hb); (try clear hb2); (try clear hk); (try clear hi); (try clear ho0); have hcz11_0 := cz0 BK1336; have hcz11_1 := cz1 BK1336; have hfz11_0 := blk_frozen BK1336.out 0; have hfz11_1 := blk_frozen BK1336.out 1) | ((with_reducible refine gate_callee (f := 98) rfl ?_); refine goesL_ (some 30) rfl rfl Try.func98 (by kernel_rfl) rfl #[.agg #[.int .i64 a0_0, .int .i64 a0_1], .slice A1 l1.length c1] rfl (by (try simp only [m_1, m_2, m_3]); first | done | rfl | (simp only [m_4, m_5]; rfl)) ?_; (with_reducible refine (impl_fieldOf.calls k a0_0 a0_1 _ _ l1 t1341 t1342 t1343 _ ?side1 ?side2 A7.out).mono ?_); (case side1 => repeat (first | exact (Kd.C_below HR1.out HB.out) | (with_reducible refine Kd.C_alloc ?_ _) | (with_reducible refine Kd.C_drewN ?_ _) | (with_reducible refine Kd.C_drew ?_))); (case side2 => exact HC1.out); rintro e w12 ⟨v1344, rfl, ho0, hb⟩; refine ⟨_, rfl, ?_⟩; have n0_ := Aside0.mk (Kd.R_below (by (with_reducible repeat (first | apply r_a | apply r_d | apply r_e)); exact HO1339.out) hb); have n1_ := Aside0.mk (Kd.R_lower ho0 (below_size (bB HB))); replace BK1336 := bbx hb BK1336; have n3_ := bsx hb HB; clear HO1339; clear HB; have HO1339 := n0_; have HO1345 := n1_; have HB := n3_; clear n0_ n1_ n3_; (try clear hb); (try clear hb2); (try clear hk); (try clear hi); (try clear ho0)) | ((with_reducible refine gate_dst (N := 31) rfl ?_); refine Kd.R_lit Kd.string _ 9 ?hg (N := 31) ?hd (xs := ([] : List ByteArray)) (inner := []) (ok := fun _ => True) (okp := fun _ => True) ?hr ?hp (fun _ hk => hk) trivial (Below.refl _ _) (Nat.le_refl _) (by simp) ?_; (case hd => rfl); (case hg => rfl); (case hr => first | (go_simp; done) | (go_simp; rfl)); (case hp => exact (Reps.none _ _)); intro v1347 w13 ho14 hb hg_ hnew_; clear hg_ hnew_; (first | rw [← Ny1346.out] at ho14 | (simp only [Int.reduceToNat] at ho14; rw [← Ny1346.out] at ho14)); have n0_ := Aside0.mk (Kd.R_below (by (with_reducible repeat (first | apply r_a | apply r_d | apply r_e)); exact HO1339.out) hb); have n1_ := Aside0.mk (Kd.R_below (by (with_reducible repeat (first | apply r_a | apply r_d | apply r_e)); exact HO1345.out) hb); have n2_ := Aside0.mk (Kd.R_lower ho14 (below_size (bB HB))); replace BK1336 := bbx hb BK1336; have n4_ := bsx hb HB; clear HO1339; clear HO1345; clear HB; have HO1339 := n0_; have HO1345 := n1_; have HO1348 := n2_; have HB := n4_; clear n0_ n1_ n2_ n4_; clear hb ho14) | ((with_reducible refine gate_dst (N := 12) rfl ?_); refine box_event ?hg (N := 12) ?hd (cs := #[.int .i64 0, .int .i64 0, .slice none 0 0]) (t := 105) ?hr ?_; (case hd => rfl); (case hg => rfl); (case hr => first | (go_simp; done) | (go_simp; rfl)); intro gb1349 hg w15 hbox hb; have n0_ := Aside0.mk (Kd.R_below (by (with_reducible repeat (first | apply r_a | apply r_d | apply r_e)); exact HO1339.out) hb); have n1_ := Aside0.mk (Kd.R_below (by (with_reducible repeat (first | apply r_a | apply r_d | apply r_e)); exact HO1345.out) hb); have n2_ := Aside0.mk (Kd.R_below (by (with_reducible repeat (first | apply r_a | apply r_d | apply r_e)); exact HO1348.out) hb); have n3_ := bbx hb BK1336; have n4_ := bsx hb HB; have n5_ := Aside0.mk (hbox); have n6_ := gwx hg HB; have n7_ := gwx hg HB; have n8_ := nlx hg BK1336; have n9_ := ngx hg BK1336; clear HO1339; clear HO1345; clear HO1348; clear BK1336; clear HB; have HO1339 := n0_; have HO1345 := n1_; have HO1348 := n2_; have BK1336 := n3_; have HB := n4_; have BK1349 := n5_; have GW1349 := n6_; have GE1349 := n7_; have NB1336_1349 := n8_; have NB1349_1336 := n9_; clear n0_ n1_ n2_ n3_ n4_ n5_ n6_ n7_ n8_ n9_; clear hb hbox hg; have hnb16 := NB1349_1336.out; have hnc16 := NB1336_1349.out; have hcz17_0 : w15.cell? ⟨gb1349, 0, none⟩ = some (.int .i64 0) := (blk_cell BK1349.out 0).trans rfl; have hcz17_1 : w15.cell? ⟨gb1349, 1, none⟩ = some (.int .i64 0) := (blk_cell BK1349.out 1).trans rfl; have hcz17_2 : w15.cell? ⟨gb1349, 2, none⟩ = some (.slice none 0 0) := (blk_cell BK1349.out 2).trans rfl; have hfz17_0 := blk_frozen BK1349.out 0; have hfz17_1 := blk_frozen BK1349.out 1; have hfz17_2 := blk_frozen BK1349.out 2; obtain ⟨Ao18, co18, eo18⟩ := Kd.R_slice HO1345.out; subst eo18; obtain ⟨Ao19, co19, eo19⟩ := Kd.R_slice HO1339.out; subst eo19))
  go_loopg [13, 14, 35] k (fun kq v13 v14 v35 w' => ∃ (x13_1 : List ByteArray) (x14_1 : ByteArray) (x35_1 : Int) (x1350002_1 : List Bool) (u1350002 : Value), v14 = .string x14_1 ∧ v35 = .int .i64 x35_1 ∧ Aside0 (impl_NeededCodes.l0 kq a2 a3 x13_1 x14_1 t1337 (t1337.length : Int) x35_1 a0_0 a0_1 t1341 t1342 x1350002_1 = some (r1, r2)) ∧ Aside0 (kq ≤ k) ∧ Aside0 (Kd.R Kd.string 9 w' w.heap.size (fun _ => True) v13 x13_1) ∧ Aside0 (Kd.R k66 66 w' w.heap.size (fun _ => True) (.slice Ao19 t1337.length co19) t1337) ∧ Aside0 (Kd.R Kd.bool 4 w' w.heap.size (fun _ => True) u1350002 x1350002_1) ∧ Aside0 (w'.heap[gb1336]? = some (.cells #[.int .i64 a0_0, .int .i64 a0_1] 28 (0, 0))) ∧ Aside0 (w'.heap[gb1349]? = some (.cells #[.int .i64 t1341, .int .i64 t1342, u1350002] 105 (0, 0))) ∧ Aside0 (Below w.heap.size w w'))
  case atStart => exact ⟨(y1346), (a2), (0), (t1343), (.slice Ao18 t1343.length co18), (by first | rfl | (simp; done) | (simp [*]; done)), (by first | rfl | (simp; done) | (simp [*]; done)), H', ⟨Nat.le_refl _⟩, ⟨by (with_reducible repeat (first | apply r_a | apply r_d | apply r_e)); exact Kd.R_mono (Kd.R_far (p := ⟨gb1349, 2, none⟩) (Kd.R_far (p := ⟨gb1349, 1, none⟩) (Kd.R_far (p := ⟨gb1349, 0, none⟩) (Kd.R_types HO1348.out BK1349.out (by decide)) (fun _ hk => hk.2) (.int .i64 t1341)) (fun _ hk => hk.2) (.int .i64 t1342)) (fun _ hk => hk.2) (.slice Ao18 t1343.length co18)) (fun _ hk => trivial)⟩, ⟨by (with_reducible repeat (first | apply r_a | apply r_d | apply r_e)); exact Kd.R_mono (Kd.R_far (p := ⟨gb1349, 2, none⟩) (Kd.R_far (p := ⟨gb1349, 1, none⟩) (Kd.R_far (p := ⟨gb1349, 0, none⟩) (Kd.R_types HO1339.out BK1349.out (by decide)) (fun _ hk => hk.2) (.int .i64 t1341)) (fun _ hk => hk.2) (.int .i64 t1342)) (fun _ hk => hk.2) (.slice Ao18 t1343.length co18)) (fun _ hk => trivial)⟩, ⟨by (with_reducible repeat (first | apply r_a | apply r_d | apply r_e)); exact Kd.R_mono (Kd.R_far (p := ⟨gb1349, 2, none⟩) (Kd.R_far (p := ⟨gb1349, 1, none⟩) (Kd.R_far (p := ⟨gb1349, 0, none⟩) (Kd.R_types HO1345.out BK1349.out (by decide)) (fun _ hk => hk.2) (.int .i64 t1341)) (fun _ hk => hk.2) (.int .i64 t1342)) (fun _ hk => hk.2) (.slice Ao18 t1343.length co18)) (fun _ hk => trivial)⟩, ⟨bF⟩, ⟨by (with_reducible repeat (first | refine g_d ?_ _ | refine g_e ?_ | refine g_a ?_ _)); refine blk_put (cs := #[.int .i64 t1341, .int .i64 t1342, .slice none 0 0]) ?_ 2 _ rfl; (with_reducible repeat (first | refine g_d ?_ _ | refine g_e ?_ | refine g_a ?_ _)); refine blk_put (cs := #[.int .i64 t1341, .int .i64 0, .slice none 0 0]) ?_ 1 _ rfl; (with_reducible repeat (first | refine g_d ?_ _ | refine g_e ?_ | refine g_a ?_ _)); refine blk_put (cs := #[.int .i64 0, .int .i64 0, .slice none 0 0]) ?_ 0 _ rfl; (with_reducible repeat (first | refine g_d ?_ _ | refine g_e ?_ | refine g_a ?_ _)); exact BK1349.out⟩, ⟨bB HB⟩⟩
  clear H'
  try clear c1
  try clear c6
  try clear hcz11_0
  try clear hcz11_1
  try clear hcz17_0
  try clear hcz17_1
  try clear hcz17_2
  try clear hcz9_0
  try clear hcz9_1
  try clear hfz11_0
  try clear hfz11_1
  try clear hfz17_0
  try clear hfz17_1
  try clear hfz17_2
  try clear hfz9_0
  try clear hfz9_1
  obtain ⟨x13_1, x14_1, x35_1, x1350002_1, u1350002, rfl, rfl, HA, HK1, HO_13, HO_33, HO_1350002, BK1336, BK1349, HB⟩ := hrel
  rcases gk with _ | k1
  · exact absurd HA.out (by simp [impl_NeededCodes.l0])
  have H := HA.out
  clear HA
  simp only [impl_NeededCodes.l0] at H
  by_cases c20 : x35_1 < (t1337.length : Int)
  rotate_left
  · rw [if_neg c20] at H
    have c20b0 : decide (x35_1 < (t1337.length : Int)) = false := decide_eq_false c20
    clear c20
    replace H := Option.bind_eq_some_iff.mp H
    obtain ⟨t1350, A890, H⟩ := H
    try dsimp only at H
    have A89 := Aside0.mk A890
    clear A890
    simp only [Option.some.injEq, Prod.mk.injEq] at H
    obtain ⟨rfl, rfl⟩ := H
    obtain ⟨Ao90, co90, eo90⟩ := Kd.R_slice HO_13.out
    subst eo90
    go_wp2_with (first | ((with_reducible refine gate_callee (f := 101) rfl ?_); refine goesL_ (some 74) rfl rfl Try.func101 (by kernel_rfl) rfl #[.slice Ao90 x13_1.length co90] rfl (by (try simp only [m_1, m_2, m_3]); first | done | rfl | (simp only [m_4, m_5]; rfl)) ?_; (with_reducible refine (impl_sorted.calls (fun k_ => some k_ = (.slice Ao90 x13_1.length co90 : Value).ownBlock) (.slice Ao90 x13_1.length co90) x13_1 t1350 w _ ?side1 ?side2 A89.out).mono ?_); (case side1 => exact bB HB); (case side2 => exact Kd.R_tight rfl HO_13.out); rintro e w91 ⟨v1351, rfl, ho0, hb, hkp⟩; refine ⟨_, rfl, ?_⟩; have n0_ := Aside0.mk (Kd.R_mono (ok' := fun k_ => True) (Kd.R_keptB ((Kd.R_apart' HO_33.out (Kd.R_typed HO_13.out) (by decide))) hkp (fun k_ hk_ hs_ => (hk_.2) hs_)) (fun k_ hk_ => trivial)); have n1_ := Aside0.mk (Kd.R_mono (ok' := fun k_ => True) (Kd.R_keptB ((Kd.R_apart' HO_1350002.out (Kd.R_typed HO_13.out) (by decide))) hkp (fun k_ hk_ hs_ => (hk_.2) hs_)) (fun k_ hk_ => trivial)); have n2_ := Aside0.mk (blk_kept (bK BK1336) hkp (fun hs_ => (fun e_ => (Kd.R_ne HO_13.out BK1336.out (by decide)) e_) hs_)); have n3_ := Aside0.mk (blk_kept (bK BK1349) hkp (fun hs_ => (fun e_ => (Kd.R_ne HO_13.out BK1349.out (by decide)) e_) hs_)); have n4_ := Aside0.mk (Kd.R_mono (ok' := fun k_ => True) ho0 (fun k_ hk_ => trivial)); have n5_ := Aside0.mk (hb); clear HO_33; clear HO_1350002; clear BK1336; clear BK1349; clear HB; clear HO_13; have HO_33 := n0_; have HO_1350002 := n1_; have BK1336 := n2_; have BK1349 := n3_; have HO1352 := n4_; have HB := n5_; clear n0_ n1_ n2_ n3_ n4_ n5_; (try clear hb); (try clear hkp); (try clear ho0)))
    go_ret2
    exact ⟨_, by first | rfl | (simp [errW_none, errW_some] <;> rfl) | (simp [*, errW_none, errW_some] <;> rfl), by (with_reducible repeat (first | apply r_a | apply r_d | apply r_e)); exact HO1352.out, bB HB⟩
  rw [if_pos c20] at H
  have c20b0 : decide (x35_1 < (t1337.length : Int)) = true := decide_eq_true c20
  clear c20
  by_cases c21 : 0 ≤ x35_1
  rotate_left
  · rw [if_neg c21] at H
    exact absurd H (by simp)
  rw [if_pos c21] at H
  have c21b0 : decide (0 ≤ x35_1) = true := decide_eq_true c21
  clear c21
  by_cases c22 : x35_1 < (t1337.length : Int)
  rotate_left
  · rw [if_neg c22] at H
    exact absurd H (by simp)
  rw [if_pos c22] at H
  have c22b0 : decide (x35_1 < (t1337.length : Int)) = true := decide_eq_true c22
  clear c22
  replace H := Option.bind_eq_some_iff.mp H
  obtain ⟨t1355, A230, H⟩ := H
  try dsimp only at H
  have A23 := Aside0.mk A230
  clear A230
  by_cases c24 : t1355.toList = a3.toList
  · rw [if_pos c24] at H
    have c24b0 : (t1355.toList == a3.toList) = true := beq_iff_eq.mpr c24
    have c24b1 : (t1355.toList != a3.toList) = false := bne_eq_false_iff_eq.mpr c24
    clear c24
    replace H := Option.bind_eq_some_iff.mp H
    obtain ⟨t1356, A250, H⟩ := H
    try dsimp only at H
    have A25 := Aside0.mk A250
    clear A250
    simp only [Option.some.injEq, Prod.mk.injEq] at H
    obtain ⟨rfl, rfl⟩ := H
    have p1353 : 0 ≤ (x35_1 : Int) := of_decide_eq_true (by first | (with_reducible assumption) | assumption)
    have q1353 : x35_1 < (t1337.length : Int) := of_decide_eq_true (by first | (with_reducible assumption) | assumption)
    obtain ⟨ad1353, e1353, hx1353_0, hx1353_1⟩ := at_T66 (Kd.R_reads' HO_33.out).2.2 x35_1 p1353 q1353
    cases e1353
    replace p1353 := eq_true p1353
    replace q1353 := eq_true q1353
    go_wp2_with (first | ((with_reducible refine gate_dst (N := 16) rfl ?_); refine box_event ?hg (N := 16) ?hd (cs := #[.int .i64 0, .int .i64 0]) (t := 66) ?hr ?_; (case hd => rfl); (case hg => rfl); (case hr => first | (go_simp; done) | (go_simp; rfl)); intro gb1354 hg w26 hbox hb; have n0_ := Aside0.mk (Kd.R_below (by (with_reducible repeat (first | apply r_a | apply r_d | apply r_e)); exact HO_13.out) hb); have n1_ := Aside0.mk (Kd.R_below (Kd.R_elderB (by (with_reducible repeat (first | apply r_a | apply r_d | apply r_e)); exact HO_33.out) gb1354 (Nat.le_of_eq hg.symm)) hb); have n2_ := Aside0.mk (Kd.R_below (by (with_reducible repeat (first | apply r_a | apply r_d | apply r_e)); exact HO_1350002.out) hb); have n3_ := bbx hb BK1336; have n4_ := bbx hb BK1349; have n5_ := bsx hb HB; have n6_ := Aside0.mk (hbox); have n7_ := gwx hg HB; have n8_ := gwx hg HB; have n9_ := nlx hg BK1336; have n10_ := ngx hg BK1336; have n11_ := nlx hg BK1349; have n12_ := ngx hg BK1349; clear HO_13; clear HO_33; clear HO_1350002; clear BK1336; clear BK1349; clear HB; have HO_13 := n0_; have HO_33 := n1_; have HO_1350002 := n2_; have BK1336 := n3_; have BK1349 := n4_; have HB := n5_; have BK1354 := n6_; have GW1354 := n7_; have GE1354 := n8_; have NB1336_1354 := n9_; have NB1354_1336 := n10_; have NB1349_1354 := n11_; have NB1354_1349 := n12_; clear n0_ n1_ n2_ n3_ n4_ n5_ n6_ n7_ n8_ n9_ n10_ n11_ n12_; clear hb hbox hg; have hnb27 := NB1354_1336.out; have hnc27 := NB1336_1354.out; have hnb28 := NB1354_1349.out; have hnc28 := NB1349_1354.out; have hcz29_0 := cz0 BK1354; have hcz29_1 := cz1 BK1354; have hfz29_0 := blk_frozen BK1354.out 0; have hfz29_1 := blk_frozen BK1354.out 1; have hnb30 := NB1336_1349.out; have hnc30 := NB1349_1336.out; have hcz31_0 := cz0 BK1336; have hcz31_1 := cz1 BK1336; have hfz31_0 := blk_frozen BK1336.out 0; have hfz31_1 := blk_frozen BK1336.out 1) | ((with_reducible refine gate_callee (f := 99) rfl ?_); refine goesL_ (some 42) rfl rfl Try.func99 (by kernel_rfl) rfl #[.agg #[.int .i64 a0_0, .int .i64 a0_1], .string x14_1, .agg #[.int .i64 ((rd_T66 t1337 x35_1).f0), .int .i64 ((rd_T66 t1337 x35_1).f1)]] rfl (by (try simp only [m_1, m_2, m_3]); first | done | rfl | (simp only [m_4, m_5]; rfl)) ?_; (with_reducible refine (impl_Lock_turned.calls k1 a0_0 a0_1 x14_1 ((rd_T66 t1337 x35_1).f0) ((rd_T66 t1337 x35_1).f1) t1355 _ A23.out).mono ?_); rintro e w32 ⟨rfl, hb⟩; refine ⟨_, rfl, ?_⟩; have n0_ := Aside0.mk (Kd.R_below (by (with_reducible repeat (first | apply r_a | apply r_d | apply r_e)); exact (Kd.R_mono (Kd.R_far (p := ⟨gb1354, 1, none⟩) (Kd.R_far (p := ⟨gb1354, 0, none⟩) (Kd.R_types HO_13.out BK1354.out (by decide)) (fun _ hk => hk.2) (.int .i64 ((rd_T66 t1337 x35_1).f0))) (fun _ hk => hk.2) (.int .i64 ((rd_T66 t1337 x35_1).f1))) (fun _ h_ => h_.1))) hb); have n1_ := Aside0.mk (Kd.R_below (by (with_reducible repeat (first | apply r_a | apply r_d | apply r_e)); exact (Kd.R_mono (Kd.R_far (p := ⟨gb1354, 1, none⟩) (Kd.R_far (p := ⟨gb1354, 0, none⟩) (Kd.R_mono HO_33.out (fun k_ hk => (⟨hk, hk.2⟩ : _ ∧ k_ ≠ gb1354))) (fun _ hk => hk.2) (.int .i64 ((rd_T66 t1337 x35_1).f0))) (fun _ hk => hk.2) (.int .i64 ((rd_T66 t1337 x35_1).f1))) (fun _ h_ => h_.1))) hb); have n2_ := Aside0.mk (Kd.R_below (by (with_reducible repeat (first | apply r_a | apply r_d | apply r_e)); exact (Kd.R_mono (Kd.R_far (p := ⟨gb1354, 1, none⟩) (Kd.R_far (p := ⟨gb1354, 0, none⟩) (Kd.R_types HO_1350002.out BK1354.out (by decide)) (fun _ hk => hk.2) (.int .i64 ((rd_T66 t1337 x35_1).f0))) (fun _ hk => hk.2) (.int .i64 ((rd_T66 t1337 x35_1).f1))) (fun _ h_ => h_.1))) hb); have n3_ := Aside0.mk (blk_below (g := gb1336) (o := .cells #[.int .i64 a0_0, .int .i64 a0_1] 28 (0, 0)) (bF) hb); have n4_ := Aside0.mk (blk_below (g := gb1349) (o := .cells #[.int .i64 t1341, .int .i64 t1342, u1350002] 105 (0, 0)) (bF) hb); have n5_ := Aside0.mk (blk_below (g := gb1354) (o := .cells #[.int .i64 ((rd_T66 t1337 x35_1).f0), .int .i64 ((rd_T66 t1337 x35_1).f1)] 66 (0, 0)) (by (with_reducible repeat (first | refine g_d ?_ _ | refine g_e ?_ | refine g_a ?_ _)); refine blk_put (cs := #[.int .i64 ((rd_T66 t1337 x35_1).f0), .int .i64 0]) ?_ 1 _ rfl; (with_reducible repeat (first | refine g_d ?_ _ | refine g_e ?_ | refine g_a ?_ _)); refine blk_put (cs := #[.int .i64 0, .int .i64 0]) ?_ 0 _ rfl; (with_reducible repeat (first | refine g_d ?_ _ | refine g_e ?_ | refine g_a ?_ _)); exact BK1354.out) hb); replace HB := bsx hb HB; clear HO_13; clear HO_33; clear HO_1350002; clear BK1336; clear BK1349; clear BK1354; have HO_13 := n0_; have HO_33 := n1_; have HO_1350002 := n2_; have BK1336 := n3_; have BK1349 := n4_; have BK1354 := n5_; clear n0_ n1_ n2_ n3_ n4_ n5_; (try clear hb); (try clear hb2); (try clear hk); (try clear hi); obtain ⟨Ao33, co33, eo33⟩ := Kd.R_slice HO_13.out; subst eo33) | ((with_reducible refine gate_callee (f := 101) rfl ?_); refine goesL_ (some 74) rfl rfl Try.func101 (by kernel_rfl) rfl #[.slice Ao33 x13_1.length co33] rfl (by (try simp only [m_1, m_2, m_3]); first | done | rfl | (simp only [m_4, m_5]; rfl)) ?_; (with_reducible refine (impl_sorted.calls (fun k_ => some k_ = (.slice Ao33 x13_1.length co33 : Value).ownBlock) (.slice Ao33 x13_1.length co33) x13_1 t1356 w _ ?side1 ?side2 A25.out).mono ?_); (case side1 => exact bB HB); (case side2 => exact Kd.R_tight rfl HO_13.out); rintro e w34 ⟨v1357, rfl, ho0, hb, hkp⟩; refine ⟨_, rfl, ?_⟩; have n0_ := Aside0.mk (Kd.R_mono (ok' := fun k_ => k_ ≠ gb1354) (Kd.R_keptB ((Kd.R_apart' HO_33.out (Kd.R_typed HO_13.out) (by decide))) hkp (fun k_ hk_ hs_ => (hk_.2) hs_)) (fun k_ hk_ => hk_.1.1.2)); have n1_ := Aside0.mk (Kd.R_mono (ok' := fun k_ => True) (Kd.R_keptB ((Kd.R_apart' HO_1350002.out (Kd.R_typed HO_13.out) (by decide))) hkp (fun k_ hk_ hs_ => (hk_.2) hs_)) (fun k_ hk_ => trivial)); have n2_ := Aside0.mk (blk_kept (bK BK1336) hkp (fun hs_ => (fun e_ => (Kd.R_ne HO_13.out BK1336.out (by decide)) e_) hs_)); have n3_ := Aside0.mk (blk_kept (bK BK1349) hkp (fun hs_ => (fun e_ => (Kd.R_ne HO_13.out BK1349.out (by decide)) e_) hs_)); have n4_ := Aside0.mk (blk_kept (bK BK1354) hkp (fun hs_ => (fun e_ => (Kd.R_ne HO_13.out BK1354.out (by decide)) e_) hs_)); have n5_ := Aside0.mk (Kd.R_mono (ok' := fun k_ => True) ho0 (fun k_ hk_ => trivial)); have n6_ := Aside0.mk (hb); clear HO_33; clear HO_1350002; clear BK1336; clear BK1349; clear BK1354; clear HB; clear HO_13; have HO_33 := n0_; have HO_1350002 := n1_; have BK1336 := n2_; have BK1349 := n3_; have BK1354 := n4_; have HO1358 := n5_; have HB := n6_; clear n0_ n1_ n2_ n3_ n4_ n5_ n6_; (try clear hb); (try clear hkp); (try clear ho0)))
    go_ret2
    exact ⟨_, by first | rfl | (simp [errW_none, errW_some] <;> rfl) | (simp [*, errW_none, errW_some] <;> rfl), by (with_reducible repeat (first | apply r_a | apply r_d | apply r_e)); exact HO1358.out, bB HB⟩
  rw [if_neg c24] at H
  have c24b0 : (t1355.toList == a3.toList) = false := beq_eq_false_iff_ne.mpr c24
  have c24b1 : (t1355.toList != a3.toList) = true := bne_iff_ne.mpr c24
  replace H := Option.bind_eq_some_iff.mp H
  obtain ⟨t1359, A350, H⟩ := H
  try dsimp only at H
  have A35 := Aside0.mk A350
  clear A350
  by_cases c36 : 0 ≤ t1359
  rotate_left
  · rw [if_neg c36] at H
    exact absurd H (by simp)
  rw [if_pos c36] at H
  have c36b0 : decide (0 ≤ t1359) = true := decide_eq_true c36
  clear c36
  by_cases c37 : t1359 < (x1350002_1.length : Int)
  rotate_left
  · rw [if_neg c37] at H
    exact absurd H (by simp)
  rw [if_pos c37] at H
  have c37b0 : decide (t1359 < (x1350002_1.length : Int)) = true := decide_eq_true c37
  clear c37
  obtain ⟨y1360, hy1360⟩ : ∃ y_ : List Bool, y_ = (x1350002_1.set (t1359 : Int).toNat true) := ⟨_, rfl⟩
  replace H : ((impl_Lock_number.f k1 a0_0 a0_1 a2).bind fun t1361 => ((impl_field_far.f k1 t1341 t1342 y1360 t1361).bind fun t1362 => ((impl_Lock_number.f k1 a0_0 a0_1 a3).bind fun t1365 => (if 0 ≤ t1365 then (if t1365 < (t1362.length : Int) then (if (rd t1362 t1365) < 0 then (if x13_1.length < 8796093022208 then (impl_NeededCodes.l0 k1 a2 a3 (x13_1 ++ [t1355]) t1355 t1337 (t1337.length : Int) (wrap64 (x35_1 + 1)) a0_0 a0_1 t1341 t1342 (y1360.set (t1359 : Int).toNat false)) else (none)) else (impl_NeededCodes.l0 k1 a2 a3 x13_1 t1355 t1337 (t1337.length : Int) (wrap64 (x35_1 + 1)) a0_0 a0_1 t1341 t1342 (y1360.set (t1359 : Int).toNat false))) else (none)) else (none))))) = some (r1, r2) := by first | (rw [hy1360]; with_reducible exact H) | (have H2_ := (Option.bind_some _ _).symm.trans H; rw [hy1360]; with_reducible exact H2_) | (have H2_ := (Option.bind_some _ _).symm.trans H; with_reducible exact H2_) | with_reducible exact H | (rw [hy1360]; exact H) | exact H
  have Ny1360 := Aside0.mk hy1360
  clear hy1360
  replace H := Option.bind_eq_some_iff.mp H
  obtain ⟨t1361, A390, H⟩ := H
  try dsimp only at H
  have A39 := Aside0.mk A390
  clear A390
  replace H := Option.bind_eq_some_iff.mp H
  obtain ⟨t1362, A400, H⟩ := H
  try dsimp only at H
  have A40 := Aside0.mk A400
  clear A400
  replace H := Option.bind_eq_some_iff.mp H
  obtain ⟨t1365, A410, H⟩ := H
  try dsimp only at H
  have A41 := Aside0.mk A410
  clear A410
  by_cases c42 : 0 ≤ t1365
  rotate_left
  · rw [if_neg c42] at H
    exact absurd H (by simp)
  rw [if_pos c42] at H
  have c42b0 : decide (0 ≤ t1365) = true := decide_eq_true c42
  clear c42
  by_cases c43 : t1365 < (t1362.length : Int)
  rotate_left
  · rw [if_neg c43] at H
    exact absurd H (by simp)
  rw [if_pos c43] at H
  have c43b0 : decide (t1365 < (t1362.length : Int)) = true := decide_eq_true c43
  clear c43
  by_cases c44 : (rd t1362 t1365) < 0
  · rw [if_pos c44] at H
    have c44b0 : decide ((rd t1362 t1365) < 0) = true := decide_eq_true c44
    clear c44
    by_cases c45 : x13_1.length < 8796093022208
    · rw [if_pos c45] at H
      have LMc45 := Aside0.mk c45
      clear c45
      obtain ⟨y1367, hy1367⟩ : ∃ y_ : List ByteArray, y_ = (x13_1 ++ [t1355]) := ⟨_, rfl⟩
      replace H : (impl_NeededCodes.l0 k1 a2 a3 y1367 t1355 t1337 (t1337.length : Int) (wrap64 (x35_1 + 1)) a0_0 a0_1 t1341 t1342 (y1360.set (t1359 : Int).toNat false)) = some (r1, r2) := by first | (rw [hy1367]; with_reducible exact H) | (have H2_ := (Option.bind_some _ _).symm.trans H; rw [hy1367]; with_reducible exact H2_) | (have H2_ := (Option.bind_some _ _).symm.trans H; with_reducible exact H2_) | with_reducible exact H | (rw [hy1367]; exact H) | exact H
      have Ny1367 := Aside0.mk hy1367
      clear hy1367
      obtain ⟨y1370, hy1370⟩ : ∃ y_ : List Bool, y_ = (y1360.set (t1359 : Int).toNat false) := ⟨_, rfl⟩
      replace H : (impl_NeededCodes.l0 k1 a2 a3 y1367 t1355 t1337 (t1337.length : Int) (wrap64 (x35_1 + 1)) a0_0 a0_1 t1341 t1342 y1370) = some (r1, r2) := by first | (rw [hy1370]; with_reducible exact H) | (have H2_ := (Option.bind_some _ _).symm.trans H; rw [hy1370]; with_reducible exact H2_) | (have H2_ := (Option.bind_some _ _).symm.trans H; with_reducible exact H2_) | with_reducible exact H | (rw [hy1370]; exact H) | exact H
      have Ny1370 := Aside0.mk hy1370
      clear hy1370
      have H' := Aside0.mk H
      clear H
      have p1353 : 0 ≤ (x35_1 : Int) := of_decide_eq_true (by first | (with_reducible assumption) | assumption)
      have q1353 : x35_1 < (t1337.length : Int) := of_decide_eq_true (by first | (with_reducible assumption) | assumption)
      obtain ⟨ad1353, e1353, hx1353_0, hx1353_1⟩ := at_T66 (Kd.R_reads' HO_33.out).2.2 x35_1 p1353 q1353
      cases e1353
      replace p1353 := eq_true p1353
      replace q1353 := eq_true q1353
      try go_wp2_with (first | ((with_reducible refine gate_dst (N := 16) rfl ?_); refine box_event ?hg (N := 16) ?hd (cs := #[.int .i64 0, .int .i64 0]) (t := 66) ?hr ?_; (case hd => rfl); (case hg => rfl); (case hr => first | (go_simp; done) | (go_simp; rfl)); intro gb1354 hg w47 hbox hb; have n0_ := Aside0.mk (Kd.R_below (by (with_reducible repeat (first | apply r_a | apply r_d | apply r_e)); exact HO_13.out) hb); have n1_ := Aside0.mk (Kd.R_below (Kd.R_elderB (by (with_reducible repeat (first | apply r_a | apply r_d | apply r_e)); exact HO_33.out) gb1354 (Nat.le_of_eq hg.symm)) hb); have n2_ := Aside0.mk (Kd.R_below (by (with_reducible repeat (first | apply r_a | apply r_d | apply r_e)); exact HO_1350002.out) hb); have n3_ := bbx hb BK1336; have n4_ := bbx hb BK1349; have n5_ := bsx hb HB; have n6_ := Aside0.mk (hbox); have n7_ := gwx hg HB; have n8_ := gwx hg HB; have n9_ := nlx hg BK1336; have n10_ := ngx hg BK1336; have n11_ := nlx hg BK1349; have n12_ := ngx hg BK1349; clear HO_13; clear HO_33; clear HO_1350002; clear BK1336; clear BK1349; clear HB; have HO_13 := n0_; have HO_33 := n1_; have HO_1350002 := n2_; have BK1336 := n3_; have BK1349 := n4_; have HB := n5_; have BK1354 := n6_; have GW1354 := n7_; have GE1354 := n8_; have NB1336_1354 := n9_; have NB1354_1336 := n10_; have NB1349_1354 := n11_; have NB1354_1349 := n12_; clear n0_ n1_ n2_ n3_ n4_ n5_ n6_ n7_ n8_ n9_ n10_ n11_ n12_; clear hb hbox hg; have hnb48 := NB1354_1336.out; have hnc48 := NB1336_1354.out; have hnb49 := NB1354_1349.out; have hnc49 := NB1349_1354.out; have hcz50_0 := cz0 BK1354; have hcz50_1 := cz1 BK1354; have hfz50_0 := blk_frozen BK1354.out 0; have hfz50_1 := blk_frozen BK1354.out 1; have hnb51 := NB1336_1349.out; have hnc51 := NB1349_1336.out; have hcz52_0 := cz0 BK1336; have hcz52_1 := cz1 BK1336; have hfz52_0 := blk_frozen BK1336.out 0; have hfz52_1 := blk_frozen BK1336.out 1) | ((with_reducible refine gate_callee (f := 99) rfl ?_); refine goesL_ (some 42) rfl rfl Try.func99 (by kernel_rfl) rfl #[.agg #[.int .i64 a0_0, .int .i64 a0_1], .string x14_1, .agg #[.int .i64 ((rd_T66 t1337 x35_1).f0), .int .i64 ((rd_T66 t1337 x35_1).f1)]] rfl (by (try simp only [m_1, m_2, m_3]); first | done | rfl | (simp only [m_4, m_5]; rfl)) ?_; (with_reducible refine (impl_Lock_turned.calls k1 a0_0 a0_1 x14_1 ((rd_T66 t1337 x35_1).f0) ((rd_T66 t1337 x35_1).f1) t1355 _ A23.out).mono ?_); rintro e w53 ⟨rfl, hb⟩; refine ⟨_, rfl, ?_⟩; have n0_ := Aside0.mk (Kd.R_below (by (with_reducible repeat (first | apply r_a | apply r_d | apply r_e)); exact (Kd.R_mono (Kd.R_far (p := ⟨gb1354, 1, none⟩) (Kd.R_far (p := ⟨gb1354, 0, none⟩) (Kd.R_types HO_13.out BK1354.out (by decide)) (fun _ hk => hk.2) (.int .i64 ((rd_T66 t1337 x35_1).f0))) (fun _ hk => hk.2) (.int .i64 ((rd_T66 t1337 x35_1).f1))) (fun _ h_ => h_.1))) hb); have n1_ := Aside0.mk (Kd.R_below (by (with_reducible repeat (first | apply r_a | apply r_d | apply r_e)); exact (Kd.R_mono (Kd.R_far (p := ⟨gb1354, 1, none⟩) (Kd.R_far (p := ⟨gb1354, 0, none⟩) (Kd.R_mono HO_33.out (fun k_ hk => (⟨hk, hk.2⟩ : _ ∧ k_ ≠ gb1354))) (fun _ hk => hk.2) (.int .i64 ((rd_T66 t1337 x35_1).f0))) (fun _ hk => hk.2) (.int .i64 ((rd_T66 t1337 x35_1).f1))) (fun _ h_ => h_.1))) hb); have n2_ := Aside0.mk (Kd.R_below (by (with_reducible repeat (first | apply r_a | apply r_d | apply r_e)); exact (Kd.R_mono (Kd.R_far (p := ⟨gb1354, 1, none⟩) (Kd.R_far (p := ⟨gb1354, 0, none⟩) (Kd.R_types HO_1350002.out BK1354.out (by decide)) (fun _ hk => hk.2) (.int .i64 ((rd_T66 t1337 x35_1).f0))) (fun _ hk => hk.2) (.int .i64 ((rd_T66 t1337 x35_1).f1))) (fun _ h_ => h_.1))) hb); have n3_ := Aside0.mk (blk_below (g := gb1336) (o := .cells #[.int .i64 a0_0, .int .i64 a0_1] 28 (0, 0)) (bF) hb); have n4_ := Aside0.mk (blk_below (g := gb1349) (o := .cells #[.int .i64 t1341, .int .i64 t1342, u1350002] 105 (0, 0)) (bF) hb); have n5_ := Aside0.mk (blk_below (g := gb1354) (o := .cells #[.int .i64 ((rd_T66 t1337 x35_1).f0), .int .i64 ((rd_T66 t1337 x35_1).f1)] 66 (0, 0)) (by (with_reducible repeat (first | refine g_d ?_ _ | refine g_e ?_ | refine g_a ?_ _)); refine blk_put (cs := #[.int .i64 ((rd_T66 t1337 x35_1).f0), .int .i64 0]) ?_ 1 _ rfl; (with_reducible repeat (first | refine g_d ?_ _ | refine g_e ?_ | refine g_a ?_ _)); refine blk_put (cs := #[.int .i64 0, .int .i64 0]) ?_ 0 _ rfl; (with_reducible repeat (first | refine g_d ?_ _ | refine g_e ?_ | refine g_a ?_ _)); exact BK1354.out) hb); replace HB := bsx hb HB; clear HO_13; clear HO_33; clear HO_1350002; clear BK1336; clear BK1349; clear BK1354; have HO_13 := n0_; have HO_33 := n1_; have HO_1350002 := n2_; have BK1336 := n3_; have BK1349 := n4_; have BK1354 := n5_; clear n0_ n1_ n2_ n3_ n4_ n5_; (try clear hb); (try clear hb2); (try clear hk); (try clear hi); have hcz54_0 := cz0 BK1336; have hcz54_1 := cz1 BK1336; have hfz54_0 := blk_frozen BK1336.out 0; have hfz54_1 := blk_frozen BK1336.out 1) | ((with_reducible refine gate_callee (f := 68) rfl ?_); refine goesL_ (some 48) rfl rfl Try.func68 (by kernel_rfl) rfl #[.agg #[.int .i64 a0_0, .int .i64 a0_1], .string t1355] rfl (by (try simp only [m_1, m_2, m_3]); first | done | rfl | (simp only [m_4, m_5]; rfl)) ?_; (with_reducible refine (impl_Lock_number.calls k1 a0_0 a0_1 t1355 t1359 _ A35.out).mono ?_); rintro e w55 ⟨rfl, hb⟩; refine ⟨_, rfl, ?_⟩; have n0_ := Aside0.mk (Kd.R_below (by (with_reducible repeat (first | apply r_a | apply r_d | apply r_e)); exact HO_13.out) hb); have n1_ := Aside0.mk (Kd.R_below (by (with_reducible repeat (first | apply r_a | apply r_d | apply r_e)); exact HO_33.out) hb); have n2_ := Aside0.mk (Kd.R_below (by (with_reducible repeat (first | apply r_a | apply r_d | apply r_e)); exact HO_1350002.out) hb); replace BK1336 := bbx hb BK1336; replace BK1349 := bbx hb BK1349; replace BK1354 := bbx hb BK1354; replace HB := bsx hb HB; clear HO_13; clear HO_33; clear HO_1350002; have HO_13 := n0_; have HO_33 := n1_; have HO_1350002 := n2_; clear n0_ n1_ n2_; (try clear hb); (try clear hb2); (try clear hk); (try clear hi); have hcz56_0 : w55.cell? ⟨gb1349, 0, none⟩ = some (.int .i64 t1341) := (blk_cell BK1349.out 0).trans rfl; have hcz56_1 : w55.cell? ⟨gb1349, 1, none⟩ = some (.int .i64 t1342) := (blk_cell BK1349.out 1).trans rfl; have hcz56_2 : w55.cell? ⟨gb1349, 2, none⟩ = some (u1350002) := (blk_cell BK1349.out 2).trans rfl; have hfz56_0 := blk_frozen BK1349.out 0; have hfz56_1 := blk_frozen BK1349.out 1; have hfz56_2 := blk_frozen BK1349.out 2; have p38 : 0 ≤ (t1359 : Int) := of_decide_eq_true (by first | (with_reducible assumption) | assumption); have q38 : (t1359 : Int) < ((x1350002_1.length : Int) : Int) := of_decide_eq_true (by first | (with_reducible assumption) | assumption); obtain ⟨go38, co38, eo38, gb38, gl38, cl38, HG38⟩ := Kd.R_form HO_1350002.out (by omega); (first | cases eo38 | (injection eo38 with ea_ en_ ec_; (first | subst ea_ | (injection ea_ with ea_; subst ea_)); subst ec_; clear en_)); have GB38 := Aside0.mk gb38; have GG38 := Aside0.mk HG38; clear gb38 gl38 HG38; obtain ⟨hx38_0, hf38_0⟩ := Kd.R_celln false HO_1350002.out (t1359 : Int) p38 q38; replace p38 := eq_true p38; replace q38 := eq_true q38; obtain ⟨hy57_, hz57_⟩ := Kd.R_celln false HO_1350002.out (t1359 : Int) (of_decide_eq_true (by first | (with_reducible assumption) | assumption)) (of_decide_eq_true (by first | (with_reducible assumption) | assumption)); have HP57 := Kd.R_putg HO_1350002.out (t1359 : Int) true) | ((with_reducible refine gate_store (t := 4) (p := 52) rfl ?_); refine store_event (t := 4) (p := 52) (v := ?vo_w58) (w1 := (w55.setCell ⟨go38, (t1359 : Int).toNat, none⟩ (.bool true))) ?hg ?ho ?hn ?hr ?_; (case ho => rfl); (case hg => rfl); (case hn => rfl); (case hr => first | (go_simp; done) | (go_simp; rfl)); intro w58 hw; have hg : w55.grownBy w58 (some go38) := (by rw [hw]; exact HP57.2); have hp_ : Kd.R Kd.bool 4 w58 w.heap.size (fun _ => True) (.slice (some ⟨go38, 0, none⟩) x1350002_1.length co38) y1360 := (by rw [hw, Ny1360.out]; exact HP57.1); clear HP57; have n0_ := Aside0.mk (Kd.R_over' (v := (.slice (some ⟨go38, 0, none⟩) x1350002_1.length co38)) (by (with_reducible repeat (first | apply r_a | apply r_d | apply r_e)); exact HO_13.out) (Kd.R_typed HO_1350002.out) (by decide) hg); have n1_ := Aside0.mk (Kd.R_over' (v := (.slice (some ⟨go38, 0, none⟩) x1350002_1.length co38)) (by (with_reducible repeat (first | apply r_a | apply r_d | apply r_e)); exact HO_33.out) (Kd.R_typed HO_1350002.out) (by decide) hg); have n2_ := Aside0.mk (hp_); have n3_ := Aside0.mk (blk_grown (g := gb1336) (o := .cells #[.int .i64 a0_0, .int .i64 a0_1] 28 (0, 0)) (bK BK1336) hg (Kd.R_ne HO_1350002.out BK1336.out (by decide))); have n4_ := Aside0.mk (blk_grown (g := gb1349) (o := .cells #[.int .i64 t1341, .int .i64 t1342, .slice (some ⟨go38, 0, none⟩) x1350002_1.length co38] 105 (0, 0)) (bK BK1349) hg (Kd.R_ne HO_1350002.out BK1349.out (by decide))); have n5_ := Aside0.mk (blk_grown (g := gb1354) (o := .cells #[.int .i64 ((rd_T66 t1337 x35_1).f0), .int .i64 ((rd_T66 t1337 x35_1).f1)] 66 (0, 0)) (bK BK1354) hg (Kd.R_ne HO_1350002.out BK1354.out (by decide))); have n6_ := Aside0.mk ((by rw [hw]; exact b_s (HB.out) GB38.out : Below w.heap.size w w58)); clear HO_13; clear HO_33; clear HO_1350002; clear BK1336; clear BK1349; clear BK1354; clear HB; have HO_13 := n0_; have HO_33 := n1_; have HO_1350002 := n2_; have BK1336 := n3_; have BK1349 := n4_; have BK1354 := n5_; have HB := n6_; clear n0_ n1_ n2_ n3_ n4_ n5_ n6_; clear hg hw hp_))
      have n0_ := Aside0.mk (r_e HO_13.out)
      have n1_ := Aside0.mk (r_e HO_33.out)
      have n2_ := Aside0.mk (r_e HO_1350002.out)
      have n3_ := Aside0.mk (g_e BK1336.out)
      have n4_ := Aside0.mk (g_e BK1349.out)
      have n5_ := Aside0.mk (g_e BK1354.out)
      have n6_ := Aside0.mk (b_e HB.out)
      clear HO_13
      clear HO_33
      clear HO_1350002
      clear BK1336
      clear BK1349
      clear BK1354
      clear HB
      have HO_13 := n0_
      have HO_33 := n1_
      have HO_1350002 := n2_
      have BK1336 := n3_
      have BK1349 := n4_
      have BK1354 := n5_
      have HB := n6_
      clear n0_ n1_ n2_ n3_ n4_ n5_ n6_
      refine start_ (n := 11) (S := fun w' => w'.cell? ⟨gb1349, 0, none⟩ = some (.int .i64 t1341) ∧ w'.cell? ⟨gb1349, 1, none⟩ = some (.int .i64 t1342) ∧ w'.cell? ⟨gb1349, 2, none⟩ = some (.slice (some ⟨go38, 0, none⟩) x1350002_1.length co38) ∧ w'.cell? ⟨gb1336, 0, none⟩ = some (.int .i64 a0_0) ∧ w'.cell? ⟨gb1336, 1, none⟩ = some (.int .i64 a0_1) ∧ True) (ds := []) (bs_ 11 0) (by kernel_rfl) rfl rfl ⟨(blk_cell BK1349.out 0).trans rfl, (blk_cell BK1349.out 1).trans rfl, (blk_cell BK1349.out 2).trans rfl, (blk_cell BK1336.out 0).trans rfl, (blk_cell BK1336.out 1).trans rfl, trivial⟩ (fun hHeld => ?_); refine with_tabW impl_NeededCodes.tab12 impl_NeededCodes.bits12 (fun HT_ HW_ => ?_)
      generalize w58.drew = w59 at HO_13 HO_33 HO_1350002 BK1336 BK1349 BK1354 HB hHeld ⊢
      refine pua 2 55 (bs_ 11 4) HT_ ?_
      refine pua 6 59 (bs_ 11 68) HT_ ?_
      refine tk_ 0 53 (bs_ 11 69) rfl rfl HT_ HW_ (by kernel_rfl) (fun _ _ _ h => h) (by rfl) hHeld (by rintro w' ⟨s0, s1, s2, s3, s4, s5⟩; go_simp; with_reducible rfl) (by simp only [Act.put, s_1, s_2, s_3, i64_w, i32_w]; rfl) ?_
      refine tk_ 1 54 (bs_ 11 71) rfl rfl HT_ HW_ (by kernel_rfl) (fun _ _ _ h => h) (by rfl) hHeld (by rintro w' ⟨s0, s1, s2, s3, s4, s5⟩; go_simp; with_reducible rfl) (by simp only [Act.put, s_1, s_2, s_3, i64_w, i32_w]; rfl) ?_
      refine tk_ 5 58 (bs_ 11 103) rfl rfl HT_ HW_ (by kernel_rfl) (fun _ _ _ h => h) (by rfl) hHeld (by rintro w' ⟨s0, s1, s2, s3, s4, s5⟩; go_simp; with_reducible rfl) (by simp only [Act.put, s_1, s_2, s_3, i64_w, i32_w]; rfl) ?_
      refine one_ (i := 3) (N := some 56) (bs_ 11 111) rfl rfl (one_of HT_.out (by kernel_rfl)) (by decide) (fun K hK => ?_)
      refine goes_ Try.func68 (by kernel_rfl) rfl #[.agg #[.int .i64 a0_0, .int .i64 a0_1], .string a2] (by rfl) rfl rfl (by (try simp only [m_1, m_2, m_3]); first | done | rfl | (simp only [m_4, m_5]; rfl)) ?_
      with_reducible refine (impl_Lock_number.calls k1 a0_0 a0_1 a2 t1361 _ A39.out).mono ?_
      rintro e w60 ⟨rfl, hb⟩
      refine ⟨_, rfl, ?_⟩
      have n0_ := Aside0.mk (Kd.R_below (by (with_reducible repeat (first | apply r_a | apply r_d | apply r_e)); exact HO_13.out) hb)
      have n1_ := Aside0.mk (Kd.R_below (by (with_reducible repeat (first | apply r_a | apply r_d | apply r_e)); exact HO_33.out) hb)
      have n2_ := Aside0.mk (Kd.R_below (by (with_reducible repeat (first | apply r_a | apply r_d | apply r_e)); exact HO_1350002.out) hb)
      have n3_ := bbx hb BK1336
      have n4_ := bbx hb BK1349
      have n5_ := bbx hb BK1354
      have n6_ := bsx hb HB
      clear HO_13
      clear HO_33
      clear HO_1350002
      clear BK1336
      clear BK1349
      clear BK1354
      clear HB
      have HO_13 := n0_
      have HO_33 := n1_
      have HO_1350002 := n2_
      have BK1336 := n3_
      have BK1349 := n4_
      have BK1354 := n5_
      have HB := n6_
      clear n0_ n1_ n2_ n3_ n4_ n5_ n6_
      (try clear hb)
      (try clear hb2)
      (try clear hk)
      (try clear hi)
      refine hK.out _ _ ⟨(blk_cell BK1349.out 0).trans rfl, (blk_cell BK1349.out 1).trans rfl, (blk_cell BK1349.out 2).trans rfl, (blk_cell BK1336.out 0).trans rfl, (blk_cell BK1336.out 1).trans rfl, trivial⟩ (fun hHeld => ?_)
      clear hK K
      refine norm_ (a' := ?_) ?_ ?_
      rotate_left
      · show Act.put _ (some 56) _ = _
        simp only [Act.put, s_1, s_2, s_3, i64_w, i32_w]
        rfl
      refine one_ (i := 4) (N := some 57) (bs_ 11 127) rfl rfl (one_of HT_.out (by kernel_rfl)) (by decide) (fun K hK => ?_)
      refine goes_ Try.func100 (by kernel_rfl) rfl #[.agg #[.int .i64 t1341, .int .i64 t1342, .slice (some ⟨go38, 0, none⟩) y1360.length co38], .int .i64 t1361] (by rfl) rfl rfl (by (try simp only [m_1, m_2, m_3]); first | done | (rw [show y1360.length = x1350002_1.length from (Kd.R_reads' HO_1350002.out).1.symm] <;> rfl) | rfl | (simp only [m_4, m_5]; rfl)) ?_
      with_reducible refine (impl_field_far.calls k1 t1341 t1342 _ _ y1360 t1361 t1362 _ ?side1 ?side2 A40.out).mono ?_
      (case side1 => repeat (first | exact (Kd.R_reads' HO_1350002.out).2.2 | (with_reducible refine Kd.C_alloc ?_ _) | (with_reducible refine Kd.C_drewN ?_ _) | (with_reducible refine Kd.C_drew ?_)))
      (case side2 => rw [show y1360.length = x1350002_1.length from (Kd.R_reads' HO_1350002.out).1.symm]; exact (Kd.R_reads' HO_1350002.out).2.1)
      rintro e w61 ⟨v1363, rfl, ho0, hb⟩
      refine ⟨_, rfl, ?_⟩
      have n0_ := Aside0.mk (Kd.R_below (by (with_reducible repeat (first | apply r_a | apply r_d | apply r_e)); exact HO_13.out) hb)
      have n1_ := Aside0.mk (Kd.R_below (by (with_reducible repeat (first | apply r_a | apply r_d | apply r_e)); exact HO_33.out) hb)
      have n2_ := Aside0.mk (Kd.R_below (by (with_reducible repeat (first | apply r_a | apply r_d | apply r_e)); exact HO_1350002.out) hb)
      have n3_ := Aside0.mk (Kd.R_lower ho0 (below_size (bB HB)))
      have n4_ := bbx hb BK1336
      have n5_ := bbx hb BK1349
      have n6_ := bbx hb BK1354
      have n7_ := bsx hb HB
      clear HO_13
      clear HO_33
      clear HO_1350002
      clear BK1336
      clear BK1349
      clear BK1354
      clear HB
      have HO_13 := n0_
      have HO_33 := n1_
      have HO_1350002 := n2_
      have HO1364 := n3_
      have BK1336 := n4_
      have BK1349 := n5_
      have BK1354 := n6_
      have HB := n7_
      clear n0_ n1_ n2_ n3_ n4_ n5_ n6_ n7_
      (try clear hb)
      (try clear hb2)
      (try clear hk)
      (try clear hi)
      (try clear ho0)
      refine hK.out _ _ ⟨(blk_cell BK1349.out 0).trans rfl, (blk_cell BK1349.out 1).trans rfl, (blk_cell BK1349.out 2).trans rfl, (blk_cell BK1336.out 0).trans rfl, (blk_cell BK1336.out 1).trans rfl, trivial⟩ (fun hHeld => ?_)
      clear hK K
      refine norm_ (a' := ?_) ?_ ?_
      rotate_left
      · show Act.put _ (some 57) _ = _
        simp only [Act.put, s_1, s_2, s_3, i64_w, i32_w]
        rfl
      refine one_ (i := 7) (N := some 60) (bs_ 11 255) rfl rfl (one_of HT_.out (by kernel_rfl)) (by decide) (fun K hK => ?_)
      refine goes_ Try.func68 (by kernel_rfl) rfl #[.agg #[.int .i64 a0_0, .int .i64 a0_1], .string a3] (by rfl) rfl rfl (by (try simp only [m_1, m_2, m_3]); first | done | rfl | (simp only [m_4, m_5]; rfl)) ?_
      with_reducible refine (impl_Lock_number.calls k1 a0_0 a0_1 a3 t1365 _ A41.out).mono ?_
      rintro e w62 ⟨rfl, hb⟩
      refine ⟨_, rfl, ?_⟩
      have n0_ := Aside0.mk (Kd.R_below (by (with_reducible repeat (first | apply r_a | apply r_d | apply r_e)); exact HO_13.out) hb)
      have n1_ := Aside0.mk (Kd.R_below (by (with_reducible repeat (first | apply r_a | apply r_d | apply r_e)); exact HO_33.out) hb)
      have n2_ := Aside0.mk (Kd.R_below (by (with_reducible repeat (first | apply r_a | apply r_d | apply r_e)); exact HO_1350002.out) hb)
      have n3_ := Aside0.mk (Kd.R_below (by (with_reducible repeat (first | apply r_a | apply r_d | apply r_e)); exact HO1364.out) hb)
      have n4_ := bbx hb BK1336
      have n5_ := bbx hb BK1349
      have n6_ := bbx hb BK1354
      have n7_ := bsx hb HB
      clear HO_13
      clear HO_33
      clear HO_1350002
      clear HO1364
      clear BK1336
      clear BK1349
      clear BK1354
      clear HB
      have HO_13 := n0_
      have HO_33 := n1_
      have HO_1350002 := n2_
      have HO1364 := n3_
      have BK1336 := n4_
      have BK1349 := n5_
      have BK1354 := n6_
      have HB := n7_
      clear n0_ n1_ n2_ n3_ n4_ n5_ n6_ n7_
      (try clear hb)
      (try clear hb2)
      (try clear hk)
      (try clear hi)
      obtain ⟨Ao63, co63, eo63⟩ := Kd.R_slice HO1364.out
      (first | subst eo63 | (injection eo63 with f1_ f2_ f3_; have f4_ := f1_.symm; have f5_ := f3_.symm; clear f1_ f2_ f3_; subst f4_; subst f5_))
      have p1366 : 0 ≤ (t1365 : Int) := of_decide_eq_true (by first | (with_reducible assumption) | assumption)
      have q1366 : t1365 < (t1362.length : Int) := of_decide_eq_true (by first | (with_reducible assumption) | assumption)
      obtain ⟨ad1366, e1366, hx1366_0⟩ := Kd.at_int (Kd.R_reads' HO1364.out).2.2 t1365 p1366 q1366
      cases e1366
      replace p1366 := eq_true p1366
      replace q1366 := eq_true q1366
      refine hK.out _ _ ⟨(blk_cell BK1349.out 0).trans rfl, (blk_cell BK1349.out 1).trans rfl, (blk_cell BK1349.out 2).trans rfl, (blk_cell BK1336.out 0).trans rfl, (blk_cell BK1336.out 1).trans rfl, trivial⟩ (fun hHeld => ?_)
      clear hK K
      refine norm_ (a' := ?_) ?_ ?_
      rotate_left
      · show Act.put _ (some 60) _ = _
        simp only [Act.put, s_1, s_2, s_3, i64_w, i32_w]
        rfl
      refine pua 8 61 (bs_ 11 511) HT_ ?_
      refine one_ (i := 9) (N := some 62) (bs_ 11 1023) rfl rfl (one_of HT_.out (by kernel_rfl)) (by decide) (fun K hK => ?_)
      refine value_ (w1 := ?_) (v := ?_) (by rfl) rfl ?_ ?_
      rotate_left 2
      · go_simp
        constructor
        · rfl
        · rfl
      refine hK.out _ _ ⟨(blk_cell BK1349.out 0).trans rfl, (blk_cell BK1349.out 1).trans rfl, (blk_cell BK1349.out 2).trans rfl, (blk_cell BK1336.out 0).trans rfl, (blk_cell BK1336.out 1).trans rfl, trivial⟩ (fun hHeld => ?_)
      clear hK K
      refine norm_ (a' := ?_) ?_ ?_
      rotate_left
      · show Act.put _ (some 62) _ = _
        simp only [Act.put, s_1, s_2, s_3, i64_w, i32_w]
        rfl
      refine pua 10 63 (bs_ 11 2047) HT_ ?_
      refine done_ (done_of HT_.out (by kernel_rfl)) ?_
      try go_wp2_with (first | ((with_reducible refine gate_builtin (b := .append) (xs := #[.tmp 64, .tmp 66]) rfl ?_); at_builtin; refine Kd.R_append Kd.string (w0 := w) w.heap.size rfl (.tmp 64) (.tmp 66) 24 9 (.string ⟨#[]⟩) 16 rfl Try.underlying24 info9 rfl (by decide) (by omega) u13 x13_1 t1355 [.string t1355] (fun _ => True) (fun _ => False) rfl rfl ?aP (fun _ hk => hk.elim) ?aF ?aO ?aB ?aS ?aL ?_; (case aP => exact rfl); (case aB => exact (bB HB)); (case aF => exact (fun _ _ => trivial)); (case aO => exact (by (with_reducible repeat (first | apply r_a | apply r_d | apply r_e)); exact HO_13.out)); (case aS => exact (below_size (bB HB))); (case aL => have := LMc45.out; omega); intro v1368 w64 ho hb hg hat; rw [← Ny1367.out] at ho; have n0_ := Aside0.mk (Kd.R_over' (by (with_reducible repeat (first | apply r_a | apply r_d | apply r_e)); exact HO_33.out) (Kd.R_typed (by (with_reducible repeat (first | apply r_a | apply r_d | apply r_e)); exact HO_13.out)) (by decide) hg); have n1_ := Aside0.mk (Kd.R_over' (by (with_reducible repeat (first | apply r_a | apply r_d | apply r_e)); exact HO_1350002.out) (Kd.R_typed (by (with_reducible repeat (first | apply r_a | apply r_d | apply r_e)); exact HO_13.out)) (by decide) hg); have n2_ := Aside0.mk (blk_grown (g := gb1336) (o := .cells #[.int .i64 a0_0, .int .i64 a0_1] 28 (0, 0)) (bK BK1336) hg (Kd.R_ne HO_13.out BK1336.out (by decide))); have n3_ := Aside0.mk (blk_grown (g := gb1349) (o := .cells #[.int .i64 t1341, .int .i64 t1342, .slice (some ⟨go38, 0, none⟩) x1350002_1.length co38] 105 (0, 0)) (bK BK1349) hg (Kd.R_ne HO_13.out BK1349.out (by decide))); have n4_ := Aside0.mk (blk_grown (g := gb1354) (o := .cells #[.int .i64 ((rd_T66 t1337 x35_1).f0), .int .i64 ((rd_T66 t1337 x35_1).f1)] 66 (0, 0)) (bK BK1354) hg (Kd.R_ne HO_13.out BK1354.out (by decide))); have n5_ := Aside0.mk (Kd.R_over' (by (with_reducible repeat (first | apply r_a | apply r_d | apply r_e)); exact HO1364.out) (Kd.R_typed (by (with_reducible repeat (first | apply r_a | apply r_d | apply r_e)); exact HO_13.out)) (by decide) hg); have n6_ := Aside0.mk (hb); have n7_ := Aside0.mk (ho); clear HO_33; clear HO_1350002; clear BK1336; clear BK1349; clear BK1354; clear HO1364; clear HB; clear HO_13; have HO_33 := n0_; have HO_1350002 := n1_; have BK1336 := n2_; have BK1349 := n3_; have BK1354 := n4_; have HO1364 := n5_; have HB := n6_; have HO1369 := n7_; clear n0_ n1_ n2_ n3_ n4_ n5_ n6_ n7_; clear ho hb hg hat; have hcz65_0 : w64.cell? ⟨gb1349, 0, none⟩ = some (.int .i64 t1341) := (blk_cell BK1349.out 0).trans rfl; have hcz65_1 : w64.cell? ⟨gb1349, 1, none⟩ = some (.int .i64 t1342) := (blk_cell BK1349.out 1).trans rfl; have hcz65_2 : w64.cell? ⟨gb1349, 2, none⟩ = some (.slice (some ⟨go38, 0, none⟩) x1350002_1.length co38) := (blk_cell BK1349.out 2).trans rfl; have hfz65_0 := blk_frozen BK1349.out 0; have hfz65_1 := blk_frozen BK1349.out 1; have hfz65_2 := blk_frozen BK1349.out 2; have p46 : 0 ≤ (t1359 : Int) := of_decide_eq_true (by first | (with_reducible assumption) | assumption); have q46 : (t1359 : Int) < ((x1350002_1.length : Int) : Int) := of_decide_eq_true (by first | (with_reducible assumption) | assumption); obtain ⟨hx46_0, hf46_0⟩ := Kd.R_celln false HO_1350002.out (t1359 : Int) p46 q46; replace p46 := eq_true p46; replace q46 := eq_true q46; obtain ⟨hy66_, hz66_⟩ := Kd.R_celln false HO_1350002.out (t1359 : Int) (of_decide_eq_true (by first | (with_reducible assumption) | assumption)) (of_decide_eq_true (by first | (with_reducible assumption) | assumption)); have HP66 := Kd.R_putg HO_1350002.out (t1359 : Int) false) | ((with_reducible refine gate_store (t := 4) (p := 71) rfl ?_); refine store_event (t := 4) (p := 71) (v := ?vo_w67) (w1 := (w64.setCell ⟨go38, (t1359 : Int).toNat, none⟩ (.bool false))) ?hg ?ho ?hn ?hr ?_; (case ho => rfl); (case hg => rfl); (case hn => rfl); (case hr => first | (go_simp; done) | (go_simp; rfl)); intro w67 hw; have hg : w64.grownBy w67 (some go38) := (by rw [hw]; exact HP66.2); have hp_ : Kd.R Kd.bool 4 w67 w.heap.size (fun _ => True) (.slice (some ⟨go38, 0, none⟩) x1350002_1.length co38) y1370 := (by rw [hw, Ny1370.out]; exact HP66.1); clear HP66; have n0_ := Aside0.mk (Kd.R_over' (v := (.slice (some ⟨go38, 0, none⟩) x1350002_1.length co38)) (by (with_reducible repeat (first | apply r_a | apply r_d | apply r_e)); exact HO_33.out) (Kd.R_typed HO_1350002.out) (by decide) hg); have n1_ := Aside0.mk (hp_); have n2_ := Aside0.mk (blk_grown (g := gb1336) (o := .cells #[.int .i64 a0_0, .int .i64 a0_1] 28 (0, 0)) (bK BK1336) hg (Kd.R_ne HO_1350002.out BK1336.out (by decide))); have n3_ := Aside0.mk (blk_grown (g := gb1349) (o := .cells #[.int .i64 t1341, .int .i64 t1342, .slice (some ⟨go38, 0, none⟩) x1350002_1.length co38] 105 (0, 0)) (bK BK1349) hg (Kd.R_ne HO_1350002.out BK1349.out (by decide))); have n4_ := Aside0.mk (blk_grown (g := gb1354) (o := .cells #[.int .i64 ((rd_T66 t1337 x35_1).f0), .int .i64 ((rd_T66 t1337 x35_1).f1)] 66 (0, 0)) (bK BK1354) hg (Kd.R_ne HO_1350002.out BK1354.out (by decide))); have n5_ := Aside0.mk (Kd.R_over' (v := (.slice (some ⟨go38, 0, none⟩) x1350002_1.length co38)) (by (with_reducible repeat (first | apply r_a | apply r_d | apply r_e)); exact HO1364.out) (Kd.R_typed HO_1350002.out) (by decide) hg); have n6_ := Aside0.mk (Kd.R_over' (v := (.slice (some ⟨go38, 0, none⟩) x1350002_1.length co38)) (by (with_reducible repeat (first | apply r_a | apply r_d | apply r_e)); exact HO1369.out) (Kd.R_typed HO_1350002.out) (by decide) hg); have n7_ := Aside0.mk ((by rw [hw]; exact b_s (HB.out) GB38.out : Below w.heap.size w w67)); clear HO_33; clear HO_1350002; clear BK1336; clear BK1349; clear BK1354; clear HO1364; clear HO1369; clear HB; have HO_33 := n0_; have HO_1350002 := n1_; have BK1336 := n2_; have BK1349 := n3_; have BK1354 := n4_; have HO1364 := n5_; have HO1369 := n6_; have HB := n7_; clear n0_ n1_ n2_ n3_ n4_ n5_ n6_ n7_; clear hg hw hp_))
      go_roundg k1
      case measure => have := HK1.out; omega
      case rel => refine ⟨(y1367), (t1355), (wrap64 (x35_1 + 1)), (y1370), (.slice (some ⟨go38, 0, none⟩) x1350002_1.length co38), (by first | rfl | (simp; done) | (simp [*]; done)), (by first | rfl | (simp; done) | (simp [*]; done)), H', ⟨by have := HK1.out; omega⟩, ⟨?_⟩, ⟨by (with_reducible repeat (first | apply r_a | apply r_d | apply r_e)); exact Kd.R_mono HO_33.out (fun _ hk => trivial)⟩, ⟨?_⟩, ⟨?_⟩, ⟨?_⟩, ⟨bB HB⟩⟩ <;> (with_reducible repeat (first | refine g_d ?_ _ | refine g_e ?_ | refine g_a ?_ _ | apply r_a | apply r_d | apply r_e)) <;> first | exact BK1336.out | exact BK1349.out | exact HO1369.out | exact HO_1350002.out
    · rw [if_neg c45] at H
      exact absurd H (by simp)
  rw [if_neg c44] at H
  have c44b0 : decide ((rd t1362 t1365) < 0) = false := decide_eq_false c44
  clear c44
  obtain ⟨y1371, hy1371⟩ : ∃ y_ : List Bool, y_ = (y1360.set (t1359 : Int).toNat false) := ⟨_, rfl⟩
  replace H : (impl_NeededCodes.l0 k1 a2 a3 x13_1 t1355 t1337 (t1337.length : Int) (wrap64 (x35_1 + 1)) a0_0 a0_1 t1341 t1342 y1371) = some (r1, r2) := by first | (rw [hy1371]; with_reducible exact H) | (have H2_ := (Option.bind_some _ _).symm.trans H; rw [hy1371]; with_reducible exact H2_) | (have H2_ := (Option.bind_some _ _).symm.trans H; with_reducible exact H2_) | with_reducible exact H | (rw [hy1371]; exact H) | exact H
  have Ny1371 := Aside0.mk hy1371
  clear hy1371
  have H' := Aside0.mk H
  clear H
  have p1353 : 0 ≤ (x35_1 : Int) := of_decide_eq_true (by first | (with_reducible assumption) | assumption)
  have q1353 : x35_1 < (t1337.length : Int) := of_decide_eq_true (by first | (with_reducible assumption) | assumption)
  obtain ⟨ad1353, e1353, hx1353_0, hx1353_1⟩ := at_T66 (Kd.R_reads' HO_33.out).2.2 x35_1 p1353 q1353
  cases e1353
  replace p1353 := eq_true p1353
  replace q1353 := eq_true q1353
  try go_wp2_with (first | ((with_reducible refine gate_dst (N := 16) rfl ?_); refine box_event ?hg (N := 16) ?hd (cs := #[.int .i64 0, .int .i64 0]) (t := 66) ?hr ?_; (case hd => rfl); (case hg => rfl); (case hr => first | (go_simp; done) | (go_simp; rfl)); intro gb1354 hg w69 hbox hb; have n0_ := Aside0.mk (Kd.R_below (by (with_reducible repeat (first | apply r_a | apply r_d | apply r_e)); exact HO_13.out) hb); have n1_ := Aside0.mk (Kd.R_below (Kd.R_elderB (by (with_reducible repeat (first | apply r_a | apply r_d | apply r_e)); exact HO_33.out) gb1354 (Nat.le_of_eq hg.symm)) hb); have n2_ := Aside0.mk (Kd.R_below (by (with_reducible repeat (first | apply r_a | apply r_d | apply r_e)); exact HO_1350002.out) hb); have n3_ := bbx hb BK1336; have n4_ := bbx hb BK1349; have n5_ := bsx hb HB; have n6_ := Aside0.mk (hbox); have n7_ := gwx hg HB; have n8_ := gwx hg HB; have n9_ := nlx hg BK1336; have n10_ := ngx hg BK1336; have n11_ := nlx hg BK1349; have n12_ := ngx hg BK1349; clear HO_13; clear HO_33; clear HO_1350002; clear BK1336; clear BK1349; clear HB; have HO_13 := n0_; have HO_33 := n1_; have HO_1350002 := n2_; have BK1336 := n3_; have BK1349 := n4_; have HB := n5_; have BK1354 := n6_; have GW1354 := n7_; have GE1354 := n8_; have NB1336_1354 := n9_; have NB1354_1336 := n10_; have NB1349_1354 := n11_; have NB1354_1349 := n12_; clear n0_ n1_ n2_ n3_ n4_ n5_ n6_ n7_ n8_ n9_ n10_ n11_ n12_; clear hb hbox hg; have hnb70 := NB1354_1336.out; have hnc70 := NB1336_1354.out; have hnb71 := NB1354_1349.out; have hnc71 := NB1349_1354.out; have hcz72_0 := cz0 BK1354; have hcz72_1 := cz1 BK1354; have hfz72_0 := blk_frozen BK1354.out 0; have hfz72_1 := blk_frozen BK1354.out 1; have hnb73 := NB1336_1349.out; have hnc73 := NB1349_1336.out; have hcz74_0 := cz0 BK1336; have hcz74_1 := cz1 BK1336; have hfz74_0 := blk_frozen BK1336.out 0; have hfz74_1 := blk_frozen BK1336.out 1) | ((with_reducible refine gate_callee (f := 99) rfl ?_); refine goesL_ (some 42) rfl rfl Try.func99 (by kernel_rfl) rfl #[.agg #[.int .i64 a0_0, .int .i64 a0_1], .string x14_1, .agg #[.int .i64 ((rd_T66 t1337 x35_1).f0), .int .i64 ((rd_T66 t1337 x35_1).f1)]] rfl (by (try simp only [m_1, m_2, m_3]); first | done | rfl | (simp only [m_4, m_5]; rfl)) ?_; (with_reducible refine (impl_Lock_turned.calls k1 a0_0 a0_1 x14_1 ((rd_T66 t1337 x35_1).f0) ((rd_T66 t1337 x35_1).f1) t1355 _ A23.out).mono ?_); rintro e w75 ⟨rfl, hb⟩; refine ⟨_, rfl, ?_⟩; have n0_ := Aside0.mk (Kd.R_below (by (with_reducible repeat (first | apply r_a | apply r_d | apply r_e)); exact (Kd.R_mono (Kd.R_far (p := ⟨gb1354, 1, none⟩) (Kd.R_far (p := ⟨gb1354, 0, none⟩) (Kd.R_types HO_13.out BK1354.out (by decide)) (fun _ hk => hk.2) (.int .i64 ((rd_T66 t1337 x35_1).f0))) (fun _ hk => hk.2) (.int .i64 ((rd_T66 t1337 x35_1).f1))) (fun _ h_ => h_.1))) hb); have n1_ := Aside0.mk (Kd.R_below (by (with_reducible repeat (first | apply r_a | apply r_d | apply r_e)); exact (Kd.R_mono (Kd.R_far (p := ⟨gb1354, 1, none⟩) (Kd.R_far (p := ⟨gb1354, 0, none⟩) (Kd.R_mono HO_33.out (fun k_ hk => (⟨hk, hk.2⟩ : _ ∧ k_ ≠ gb1354))) (fun _ hk => hk.2) (.int .i64 ((rd_T66 t1337 x35_1).f0))) (fun _ hk => hk.2) (.int .i64 ((rd_T66 t1337 x35_1).f1))) (fun _ h_ => h_.1))) hb); have n2_ := Aside0.mk (Kd.R_below (by (with_reducible repeat (first | apply r_a | apply r_d | apply r_e)); exact (Kd.R_mono (Kd.R_far (p := ⟨gb1354, 1, none⟩) (Kd.R_far (p := ⟨gb1354, 0, none⟩) (Kd.R_types HO_1350002.out BK1354.out (by decide)) (fun _ hk => hk.2) (.int .i64 ((rd_T66 t1337 x35_1).f0))) (fun _ hk => hk.2) (.int .i64 ((rd_T66 t1337 x35_1).f1))) (fun _ h_ => h_.1))) hb); have n3_ := Aside0.mk (blk_below (g := gb1336) (o := .cells #[.int .i64 a0_0, .int .i64 a0_1] 28 (0, 0)) (bF) hb); have n4_ := Aside0.mk (blk_below (g := gb1349) (o := .cells #[.int .i64 t1341, .int .i64 t1342, u1350002] 105 (0, 0)) (bF) hb); have n5_ := Aside0.mk (blk_below (g := gb1354) (o := .cells #[.int .i64 ((rd_T66 t1337 x35_1).f0), .int .i64 ((rd_T66 t1337 x35_1).f1)] 66 (0, 0)) (by (with_reducible repeat (first | refine g_d ?_ _ | refine g_e ?_ | refine g_a ?_ _)); refine blk_put (cs := #[.int .i64 ((rd_T66 t1337 x35_1).f0), .int .i64 0]) ?_ 1 _ rfl; (with_reducible repeat (first | refine g_d ?_ _ | refine g_e ?_ | refine g_a ?_ _)); refine blk_put (cs := #[.int .i64 0, .int .i64 0]) ?_ 0 _ rfl; (with_reducible repeat (first | refine g_d ?_ _ | refine g_e ?_ | refine g_a ?_ _)); exact BK1354.out) hb); replace HB := bsx hb HB; clear HO_13; clear HO_33; clear HO_1350002; clear BK1336; clear BK1349; clear BK1354; have HO_13 := n0_; have HO_33 := n1_; have HO_1350002 := n2_; have BK1336 := n3_; have BK1349 := n4_; have BK1354 := n5_; clear n0_ n1_ n2_ n3_ n4_ n5_; (try clear hb); (try clear hb2); (try clear hk); (try clear hi); have hcz76_0 := cz0 BK1336; have hcz76_1 := cz1 BK1336; have hfz76_0 := blk_frozen BK1336.out 0; have hfz76_1 := blk_frozen BK1336.out 1) | ((with_reducible refine gate_callee (f := 68) rfl ?_); refine goesL_ (some 48) rfl rfl Try.func68 (by kernel_rfl) rfl #[.agg #[.int .i64 a0_0, .int .i64 a0_1], .string t1355] rfl (by (try simp only [m_1, m_2, m_3]); first | done | rfl | (simp only [m_4, m_5]; rfl)) ?_; (with_reducible refine (impl_Lock_number.calls k1 a0_0 a0_1 t1355 t1359 _ A35.out).mono ?_); rintro e w77 ⟨rfl, hb⟩; refine ⟨_, rfl, ?_⟩; have n0_ := Aside0.mk (Kd.R_below (by (with_reducible repeat (first | apply r_a | apply r_d | apply r_e)); exact HO_13.out) hb); have n1_ := Aside0.mk (Kd.R_below (by (with_reducible repeat (first | apply r_a | apply r_d | apply r_e)); exact HO_33.out) hb); have n2_ := Aside0.mk (Kd.R_below (by (with_reducible repeat (first | apply r_a | apply r_d | apply r_e)); exact HO_1350002.out) hb); replace BK1336 := bbx hb BK1336; replace BK1349 := bbx hb BK1349; replace BK1354 := bbx hb BK1354; replace HB := bsx hb HB; clear HO_13; clear HO_33; clear HO_1350002; have HO_13 := n0_; have HO_33 := n1_; have HO_1350002 := n2_; clear n0_ n1_ n2_; (try clear hb); (try clear hb2); (try clear hk); (try clear hi); have hcz78_0 : w77.cell? ⟨gb1349, 0, none⟩ = some (.int .i64 t1341) := (blk_cell BK1349.out 0).trans rfl; have hcz78_1 : w77.cell? ⟨gb1349, 1, none⟩ = some (.int .i64 t1342) := (blk_cell BK1349.out 1).trans rfl; have hcz78_2 : w77.cell? ⟨gb1349, 2, none⟩ = some (u1350002) := (blk_cell BK1349.out 2).trans rfl; have hfz78_0 := blk_frozen BK1349.out 0; have hfz78_1 := blk_frozen BK1349.out 1; have hfz78_2 := blk_frozen BK1349.out 2; have p38 : 0 ≤ (t1359 : Int) := of_decide_eq_true (by first | (with_reducible assumption) | assumption); have q38 : (t1359 : Int) < ((x1350002_1.length : Int) : Int) := of_decide_eq_true (by first | (with_reducible assumption) | assumption); obtain ⟨go38, co38, eo38, gb38, gl38, cl38, HG38⟩ := Kd.R_form HO_1350002.out (by omega); (first | cases eo38 | (injection eo38 with ea_ en_ ec_; (first | subst ea_ | (injection ea_ with ea_; subst ea_)); subst ec_; clear en_)); have GB38 := Aside0.mk gb38; have GG38 := Aside0.mk HG38; clear gb38 gl38 HG38; obtain ⟨hx38_0, hf38_0⟩ := Kd.R_celln false HO_1350002.out (t1359 : Int) p38 q38; replace p38 := eq_true p38; replace q38 := eq_true q38; obtain ⟨hy79_, hz79_⟩ := Kd.R_celln false HO_1350002.out (t1359 : Int) (of_decide_eq_true (by first | (with_reducible assumption) | assumption)) (of_decide_eq_true (by first | (with_reducible assumption) | assumption)); have HP79 := Kd.R_putg HO_1350002.out (t1359 : Int) true) | ((with_reducible refine gate_store (t := 4) (p := 52) rfl ?_); refine store_event (t := 4) (p := 52) (v := ?vo_w80) (w1 := (w77.setCell ⟨go38, (t1359 : Int).toNat, none⟩ (.bool true))) ?hg ?ho ?hn ?hr ?_; (case ho => rfl); (case hg => rfl); (case hn => rfl); (case hr => first | (go_simp; done) | (go_simp; rfl)); intro w80 hw; have hg : w77.grownBy w80 (some go38) := (by rw [hw]; exact HP79.2); have hp_ : Kd.R Kd.bool 4 w80 w.heap.size (fun _ => True) (.slice (some ⟨go38, 0, none⟩) x1350002_1.length co38) y1360 := (by rw [hw, Ny1360.out]; exact HP79.1); clear HP79; have n0_ := Aside0.mk (Kd.R_over' (v := (.slice (some ⟨go38, 0, none⟩) x1350002_1.length co38)) (by (with_reducible repeat (first | apply r_a | apply r_d | apply r_e)); exact HO_13.out) (Kd.R_typed HO_1350002.out) (by decide) hg); have n1_ := Aside0.mk (Kd.R_over' (v := (.slice (some ⟨go38, 0, none⟩) x1350002_1.length co38)) (by (with_reducible repeat (first | apply r_a | apply r_d | apply r_e)); exact HO_33.out) (Kd.R_typed HO_1350002.out) (by decide) hg); have n2_ := Aside0.mk (hp_); have n3_ := Aside0.mk (blk_grown (g := gb1336) (o := .cells #[.int .i64 a0_0, .int .i64 a0_1] 28 (0, 0)) (bK BK1336) hg (Kd.R_ne HO_1350002.out BK1336.out (by decide))); have n4_ := Aside0.mk (blk_grown (g := gb1349) (o := .cells #[.int .i64 t1341, .int .i64 t1342, .slice (some ⟨go38, 0, none⟩) x1350002_1.length co38] 105 (0, 0)) (bK BK1349) hg (Kd.R_ne HO_1350002.out BK1349.out (by decide))); have n5_ := Aside0.mk (blk_grown (g := gb1354) (o := .cells #[.int .i64 ((rd_T66 t1337 x35_1).f0), .int .i64 ((rd_T66 t1337 x35_1).f1)] 66 (0, 0)) (bK BK1354) hg (Kd.R_ne HO_1350002.out BK1354.out (by decide))); have n6_ := Aside0.mk ((by rw [hw]; exact b_s (HB.out) GB38.out : Below w.heap.size w w80)); clear HO_13; clear HO_33; clear HO_1350002; clear BK1336; clear BK1349; clear BK1354; clear HB; have HO_13 := n0_; have HO_33 := n1_; have HO_1350002 := n2_; have BK1336 := n3_; have BK1349 := n4_; have BK1354 := n5_; have HB := n6_; clear n0_ n1_ n2_ n3_ n4_ n5_ n6_; clear hg hw hp_))
  have n0_ := Aside0.mk (r_e HO_13.out)
  have n1_ := Aside0.mk (r_e HO_33.out)
  have n2_ := Aside0.mk (r_e HO_1350002.out)
  have n3_ := Aside0.mk (g_e BK1336.out)
  have n4_ := Aside0.mk (g_e BK1349.out)
  have n5_ := Aside0.mk (g_e BK1354.out)
  have n6_ := Aside0.mk (b_e HB.out)
  clear HO_13
  clear HO_33
  clear HO_1350002
  clear BK1336
  clear BK1349
  clear BK1354
  clear HB
  have HO_13 := n0_
  have HO_33 := n1_
  have HO_1350002 := n2_
  have BK1336 := n3_
  have BK1349 := n4_
  have BK1354 := n5_
  have HB := n6_
  clear n0_ n1_ n2_ n3_ n4_ n5_ n6_
  refine start_ (n := 11) (S := fun w' => w'.cell? ⟨gb1349, 0, none⟩ = some (.int .i64 t1341) ∧ w'.cell? ⟨gb1349, 1, none⟩ = some (.int .i64 t1342) ∧ w'.cell? ⟨gb1349, 2, none⟩ = some (.slice (some ⟨go38, 0, none⟩) x1350002_1.length co38) ∧ w'.cell? ⟨gb1336, 0, none⟩ = some (.int .i64 a0_0) ∧ w'.cell? ⟨gb1336, 1, none⟩ = some (.int .i64 a0_1) ∧ True) (ds := []) (bs_ 11 0) (by kernel_rfl) rfl rfl ⟨(blk_cell BK1349.out 0).trans rfl, (blk_cell BK1349.out 1).trans rfl, (blk_cell BK1349.out 2).trans rfl, (blk_cell BK1336.out 0).trans rfl, (blk_cell BK1336.out 1).trans rfl, trivial⟩ (fun hHeld => ?_); refine with_tabW impl_NeededCodes.tab12 impl_NeededCodes.bits12 (fun HT_ HW_ => ?_)
  generalize w80.drew = w81 at HO_13 HO_33 HO_1350002 BK1336 BK1349 BK1354 HB hHeld ⊢
  refine pua 2 55 (bs_ 11 4) HT_ ?_
  refine pua 6 59 (bs_ 11 68) HT_ ?_
  refine tk_ 0 53 (bs_ 11 69) rfl rfl HT_ HW_ (by kernel_rfl) (fun _ _ _ h => h) (by rfl) hHeld (by rintro w' ⟨s0, s1, s2, s3, s4, s5⟩; go_simp; with_reducible rfl) (by simp only [Act.put, s_1, s_2, s_3, i64_w, i32_w]; rfl) ?_
  refine tk_ 1 54 (bs_ 11 71) rfl rfl HT_ HW_ (by kernel_rfl) (fun _ _ _ h => h) (by rfl) hHeld (by rintro w' ⟨s0, s1, s2, s3, s4, s5⟩; go_simp; with_reducible rfl) (by simp only [Act.put, s_1, s_2, s_3, i64_w, i32_w]; rfl) ?_
  refine tk_ 5 58 (bs_ 11 103) rfl rfl HT_ HW_ (by kernel_rfl) (fun _ _ _ h => h) (by rfl) hHeld (by rintro w' ⟨s0, s1, s2, s3, s4, s5⟩; go_simp; with_reducible rfl) (by simp only [Act.put, s_1, s_2, s_3, i64_w, i32_w]; rfl) ?_
  refine one_ (i := 3) (N := some 56) (bs_ 11 111) rfl rfl (one_of HT_.out (by kernel_rfl)) (by decide) (fun K hK => ?_)
  refine goes_ Try.func68 (by kernel_rfl) rfl #[.agg #[.int .i64 a0_0, .int .i64 a0_1], .string a2] (by rfl) rfl rfl (by (try simp only [m_1, m_2, m_3]); first | done | rfl | (simp only [m_4, m_5]; rfl)) ?_
  with_reducible refine (impl_Lock_number.calls k1 a0_0 a0_1 a2 t1361 _ A39.out).mono ?_
  rintro e w82 ⟨rfl, hb⟩
  refine ⟨_, rfl, ?_⟩
  have n0_ := Aside0.mk (Kd.R_below (by (with_reducible repeat (first | apply r_a | apply r_d | apply r_e)); exact HO_13.out) hb)
  have n1_ := Aside0.mk (Kd.R_below (by (with_reducible repeat (first | apply r_a | apply r_d | apply r_e)); exact HO_33.out) hb)
  have n2_ := Aside0.mk (Kd.R_below (by (with_reducible repeat (first | apply r_a | apply r_d | apply r_e)); exact HO_1350002.out) hb)
  have n3_ := bbx hb BK1336
  have n4_ := bbx hb BK1349
  have n5_ := bbx hb BK1354
  have n6_ := bsx hb HB
  clear HO_13
  clear HO_33
  clear HO_1350002
  clear BK1336
  clear BK1349
  clear BK1354
  clear HB
  have HO_13 := n0_
  have HO_33 := n1_
  have HO_1350002 := n2_
  have BK1336 := n3_
  have BK1349 := n4_
  have BK1354 := n5_
  have HB := n6_
  clear n0_ n1_ n2_ n3_ n4_ n5_ n6_
  (try clear hb)
  (try clear hb2)
  (try clear hk)
  (try clear hi)
  refine hK.out _ _ ⟨(blk_cell BK1349.out 0).trans rfl, (blk_cell BK1349.out 1).trans rfl, (blk_cell BK1349.out 2).trans rfl, (blk_cell BK1336.out 0).trans rfl, (blk_cell BK1336.out 1).trans rfl, trivial⟩ (fun hHeld => ?_)
  clear hK K
  refine norm_ (a' := ?_) ?_ ?_
  rotate_left
  · show Act.put _ (some 56) _ = _
    simp only [Act.put, s_1, s_2, s_3, i64_w, i32_w]
    rfl
  refine one_ (i := 4) (N := some 57) (bs_ 11 127) rfl rfl (one_of HT_.out (by kernel_rfl)) (by decide) (fun K hK => ?_)
  refine goes_ Try.func100 (by kernel_rfl) rfl #[.agg #[.int .i64 t1341, .int .i64 t1342, .slice (some ⟨go38, 0, none⟩) y1360.length co38], .int .i64 t1361] (by rfl) rfl rfl (by (try simp only [m_1, m_2, m_3]); first | done | (rw [show y1360.length = x1350002_1.length from (Kd.R_reads' HO_1350002.out).1.symm] <;> rfl) | rfl | (simp only [m_4, m_5]; rfl)) ?_
  with_reducible refine (impl_field_far.calls k1 t1341 t1342 _ _ y1360 t1361 t1362 _ ?side1 ?side2 A40.out).mono ?_
  (case side1 => repeat (first | exact (Kd.R_reads' HO_1350002.out).2.2 | (with_reducible refine Kd.C_alloc ?_ _) | (with_reducible refine Kd.C_drewN ?_ _) | (with_reducible refine Kd.C_drew ?_)))
  (case side2 => rw [show y1360.length = x1350002_1.length from (Kd.R_reads' HO_1350002.out).1.symm]; exact (Kd.R_reads' HO_1350002.out).2.1)
  rintro e w83 ⟨v1363, rfl, ho0, hb⟩
  refine ⟨_, rfl, ?_⟩
  have n0_ := Aside0.mk (Kd.R_below (by (with_reducible repeat (first | apply r_a | apply r_d | apply r_e)); exact HO_13.out) hb)
  have n1_ := Aside0.mk (Kd.R_below (by (with_reducible repeat (first | apply r_a | apply r_d | apply r_e)); exact HO_33.out) hb)
  have n2_ := Aside0.mk (Kd.R_below (by (with_reducible repeat (first | apply r_a | apply r_d | apply r_e)); exact HO_1350002.out) hb)
  have n3_ := Aside0.mk (Kd.R_lower ho0 (below_size (bB HB)))
  have n4_ := bbx hb BK1336
  have n5_ := bbx hb BK1349
  have n6_ := bbx hb BK1354
  have n7_ := bsx hb HB
  clear HO_13
  clear HO_33
  clear HO_1350002
  clear BK1336
  clear BK1349
  clear BK1354
  clear HB
  have HO_13 := n0_
  have HO_33 := n1_
  have HO_1350002 := n2_
  have HO1364 := n3_
  have BK1336 := n4_
  have BK1349 := n5_
  have BK1354 := n6_
  have HB := n7_
  clear n0_ n1_ n2_ n3_ n4_ n5_ n6_ n7_
  (try clear hb)
  (try clear hb2)
  (try clear hk)
  (try clear hi)
  (try clear ho0)
  refine hK.out _ _ ⟨(blk_cell BK1349.out 0).trans rfl, (blk_cell BK1349.out 1).trans rfl, (blk_cell BK1349.out 2).trans rfl, (blk_cell BK1336.out 0).trans rfl, (blk_cell BK1336.out 1).trans rfl, trivial⟩ (fun hHeld => ?_)
  clear hK K
  refine norm_ (a' := ?_) ?_ ?_
  rotate_left
  · show Act.put _ (some 57) _ = _
    simp only [Act.put, s_1, s_2, s_3, i64_w, i32_w]
    rfl
  refine one_ (i := 7) (N := some 60) (bs_ 11 255) rfl rfl (one_of HT_.out (by kernel_rfl)) (by decide) (fun K hK => ?_)
  refine goes_ Try.func68 (by kernel_rfl) rfl #[.agg #[.int .i64 a0_0, .int .i64 a0_1], .string a3] (by rfl) rfl rfl (by (try simp only [m_1, m_2, m_3]); first | done | rfl | (simp only [m_4, m_5]; rfl)) ?_
  with_reducible refine (impl_Lock_number.calls k1 a0_0 a0_1 a3 t1365 _ A41.out).mono ?_
  rintro e w84 ⟨rfl, hb⟩
  refine ⟨_, rfl, ?_⟩
  have n0_ := Aside0.mk (Kd.R_below (by (with_reducible repeat (first | apply r_a | apply r_d | apply r_e)); exact HO_13.out) hb)
  have n1_ := Aside0.mk (Kd.R_below (by (with_reducible repeat (first | apply r_a | apply r_d | apply r_e)); exact HO_33.out) hb)
  have n2_ := Aside0.mk (Kd.R_below (by (with_reducible repeat (first | apply r_a | apply r_d | apply r_e)); exact HO_1350002.out) hb)
  have n3_ := Aside0.mk (Kd.R_below (by (with_reducible repeat (first | apply r_a | apply r_d | apply r_e)); exact HO1364.out) hb)
  have n4_ := bbx hb BK1336
  have n5_ := bbx hb BK1349
  have n6_ := bbx hb BK1354
  have n7_ := bsx hb HB
  clear HO_13
  clear HO_33
  clear HO_1350002
  clear HO1364
  clear BK1336
  clear BK1349
  clear BK1354
  clear HB
  have HO_13 := n0_
  have HO_33 := n1_
  have HO_1350002 := n2_
  have HO1364 := n3_
  have BK1336 := n4_
  have BK1349 := n5_
  have BK1354 := n6_
  have HB := n7_
  clear n0_ n1_ n2_ n3_ n4_ n5_ n6_ n7_
  (try clear hb)
  (try clear hb2)
  (try clear hk)
  (try clear hi)
  obtain ⟨Ao85, co85, eo85⟩ := Kd.R_slice HO1364.out
  (first | subst eo85 | (injection eo85 with f1_ f2_ f3_; have f4_ := f1_.symm; have f5_ := f3_.symm; clear f1_ f2_ f3_; subst f4_; subst f5_))
  have p1366 : 0 ≤ (t1365 : Int) := of_decide_eq_true (by first | (with_reducible assumption) | assumption)
  have q1366 : t1365 < (t1362.length : Int) := of_decide_eq_true (by first | (with_reducible assumption) | assumption)
  obtain ⟨ad1366, e1366, hx1366_0⟩ := Kd.at_int (Kd.R_reads' HO1364.out).2.2 t1365 p1366 q1366
  cases e1366
  replace p1366 := eq_true p1366
  replace q1366 := eq_true q1366
  refine hK.out _ _ ⟨(blk_cell BK1349.out 0).trans rfl, (blk_cell BK1349.out 1).trans rfl, (blk_cell BK1349.out 2).trans rfl, (blk_cell BK1336.out 0).trans rfl, (blk_cell BK1336.out 1).trans rfl, trivial⟩ (fun hHeld => ?_)
  clear hK K
  refine norm_ (a' := ?_) ?_ ?_
  rotate_left
  · show Act.put _ (some 60) _ = _
    simp only [Act.put, s_1, s_2, s_3, i64_w, i32_w]
    rfl
  refine pua 8 61 (bs_ 11 511) HT_ ?_
  refine one_ (i := 9) (N := some 62) (bs_ 11 1023) rfl rfl (one_of HT_.out (by kernel_rfl)) (by decide) (fun K hK => ?_)
  refine value_ (w1 := ?_) (v := ?_) (by rfl) rfl ?_ ?_
  rotate_left 2
  · go_simp
    constructor
    · rfl
    · rfl
  refine hK.out _ _ ⟨(blk_cell BK1349.out 0).trans rfl, (blk_cell BK1349.out 1).trans rfl, (blk_cell BK1349.out 2).trans rfl, (blk_cell BK1336.out 0).trans rfl, (blk_cell BK1336.out 1).trans rfl, trivial⟩ (fun hHeld => ?_)
  clear hK K
  refine norm_ (a' := ?_) ?_ ?_
  rotate_left
  · show Act.put _ (some 62) _ = _
    simp only [Act.put, s_1, s_2, s_3, i64_w, i32_w]
    rfl
  refine pua 10 63 (bs_ 11 2047) HT_ ?_
  refine done_ (done_of HT_.out (by kernel_rfl)) ?_
  have hcz86_0 : w84.cell? ⟨gb1349, 0, none⟩ = some (.int .i64 t1341) := (blk_cell BK1349.out 0).trans rfl
  have hcz86_1 : w84.cell? ⟨gb1349, 1, none⟩ = some (.int .i64 t1342) := (blk_cell BK1349.out 1).trans rfl
  have hcz86_2 : w84.cell? ⟨gb1349, 2, none⟩ = some (.slice (some ⟨go38, 0, none⟩) x1350002_1.length co38) := (blk_cell BK1349.out 2).trans rfl
  have hfz86_0 := blk_frozen BK1349.out 0
  have hfz86_1 := blk_frozen BK1349.out 1
  have hfz86_2 := blk_frozen BK1349.out 2
  have p68 : 0 ≤ (t1359 : Int) := of_decide_eq_true (by first | (with_reducible assumption) | assumption)
  have q68 : (t1359 : Int) < ((x1350002_1.length : Int) : Int) := of_decide_eq_true (by first | (with_reducible assumption) | assumption)
  obtain ⟨hx68_0, hf68_0⟩ := Kd.R_celln false HO_1350002.out (t1359 : Int) p68 q68
  replace p68 := eq_true p68
  replace q68 := eq_true q68
  obtain ⟨hy87_, hz87_⟩ := Kd.R_celln false HO_1350002.out (t1359 : Int) (of_decide_eq_true (by first | (with_reducible assumption) | assumption)) (of_decide_eq_true (by first | (with_reducible assumption) | assumption))
  have HP87 := Kd.R_putg HO_1350002.out (t1359 : Int) false
  try go_wp2_with (first | ((with_reducible refine gate_store (t := 4) (p := 71) rfl ?_); refine store_event (t := 4) (p := 71) (v := ?vo_w88) (w1 := (w84.setCell ⟨go38, (t1359 : Int).toNat, none⟩ (.bool false))) ?hg ?ho ?hn ?hr ?_; (case ho => rfl); (case hg => rfl); (case hn => rfl); (case hr => first | (go_simp; done) | (go_simp; rfl)); intro w88 hw; have hg : w84.grownBy w88 (some go38) := (by rw [hw]; exact HP87.2); have hp_ : Kd.R Kd.bool 4 w88 w.heap.size (fun _ => True) (.slice (some ⟨go38, 0, none⟩) x1350002_1.length co38) y1371 := (by rw [hw, Ny1371.out]; exact HP87.1); clear HP87; have n0_ := Aside0.mk (Kd.R_over' (v := (.slice (some ⟨go38, 0, none⟩) x1350002_1.length co38)) (by (with_reducible repeat (first | apply r_a | apply r_d | apply r_e)); exact HO_13.out) (Kd.R_typed HO_1350002.out) (by decide) hg); have n1_ := Aside0.mk (Kd.R_over' (v := (.slice (some ⟨go38, 0, none⟩) x1350002_1.length co38)) (by (with_reducible repeat (first | apply r_a | apply r_d | apply r_e)); exact HO_33.out) (Kd.R_typed HO_1350002.out) (by decide) hg); have n2_ := Aside0.mk (hp_); have n3_ := Aside0.mk (blk_grown (g := gb1336) (o := .cells #[.int .i64 a0_0, .int .i64 a0_1] 28 (0, 0)) (bK BK1336) hg (Kd.R_ne HO_1350002.out BK1336.out (by decide))); have n4_ := Aside0.mk (blk_grown (g := gb1349) (o := .cells #[.int .i64 t1341, .int .i64 t1342, .slice (some ⟨go38, 0, none⟩) x1350002_1.length co38] 105 (0, 0)) (bK BK1349) hg (Kd.R_ne HO_1350002.out BK1349.out (by decide))); have n5_ := Aside0.mk (blk_grown (g := gb1354) (o := .cells #[.int .i64 ((rd_T66 t1337 x35_1).f0), .int .i64 ((rd_T66 t1337 x35_1).f1)] 66 (0, 0)) (bK BK1354) hg (Kd.R_ne HO_1350002.out BK1354.out (by decide))); have n6_ := Aside0.mk (Kd.R_over' (v := (.slice (some ⟨go38, 0, none⟩) x1350002_1.length co38)) (by (with_reducible repeat (first | apply r_a | apply r_d | apply r_e)); exact HO1364.out) (Kd.R_typed HO_1350002.out) (by decide) hg); have n7_ := Aside0.mk ((by rw [hw]; exact b_s (HB.out) GB38.out : Below w.heap.size w w88)); clear HO_13; clear HO_33; clear HO_1350002; clear BK1336; clear BK1349; clear BK1354; clear HO1364; clear HB; have HO_13 := n0_; have HO_33 := n1_; have HO_1350002 := n2_; have BK1336 := n3_; have BK1349 := n4_; have BK1354 := n5_; have HO1364 := n6_; have HB := n7_; clear n0_ n1_ n2_ n3_ n4_ n5_ n6_ n7_; clear hg hw hp_))
  go_roundg k1
  case measure => have := HK1.out; omega
  case rel => refine ⟨(x13_1), (t1355), (wrap64 (x35_1 + 1)), (y1371), (.slice (some ⟨go38, 0, none⟩) x1350002_1.length co38), (by first | rfl | (simp; done) | (simp [*]; done)), (by first | rfl | (simp; done) | (simp [*]; done)), H', ⟨by have := HK1.out; omega⟩, ⟨?_⟩, ⟨by (with_reducible repeat (first | apply r_a | apply r_d | apply r_e)); exact Kd.R_mono HO_33.out (fun _ hk => trivial)⟩, ⟨?_⟩, ⟨?_⟩, ⟨?_⟩, ⟨bB HB⟩⟩ <;> (with_reducible repeat (first | refine g_d ?_ _ | refine g_e ?_ | refine g_a ?_ _ | apply r_a | apply r_d | apply r_e)) <;> first | exact BK1336.out | exact BK1349.out | exact HO_13.out | exact HO_1350002.out
/-! ### laws_FnExactNeededCodes: function 13 -/
mutual
def laws_FnExactNeededCodes.j0 : Nat → List ByteArray → ByteArray → ByteArray → List ByteArray → Bool → List ByteArray → List ByteArray → Bool → Bool → Int → Int → Option (Bool)
  | 0, _, _, _, _, _, _, _, _, _, _, _ => none
  | k + 1, x1, x2, x3, x10, x11, x12, x13, x14, x60, x1373000, x1373001 => if x60 = true then (some false) else ((laws_toStringS.f k x1).bind fun t1393 => ((laws_eqStringS.f k x12 t1393).bind fun t1396 => (if t1396 = true then ((laws_markStringS.f k x12 1).bind fun bt1397 => (if bt1397.1 < 0 then (laws_FnExactNeededCodes.j1 k x1 x2 x3 x10 x11 x13 true x1373000 x1373001) else ((laws_eqStringS.f k x13 x10).bind fun t1399 => (if t1399 = true then (laws_FnExactNeededCodes.j1 k x1 x2 x3 x10 x11 x13 (x14 != x11) x1373000 x1373001) else (laws_FnExactNeededCodes.j1 k x1 x2 x3 x10 x11 x13 true x1373000 x1373001))))) else (some false))))
def laws_FnExactNeededCodes.j1 : Nat → List ByteArray → ByteArray → ByteArray → List ByteArray → Bool → List ByteArray → Bool → Int → Int → Option (Bool)
  | 0, _, _, _, _, _, _, _, _, _ => none
  | k + 1, x1, x2, x3, x10, x11, x13, x81, x1373000, x1373001 => if x81 = true then (some false) else ((laws_markStringS.f k x13 1).bind fun bt1400 => ((laws_heldStringS.f k bt1400.2 1).bind fun t1402 => (if t1402 < 0 then (some false) else (if t1402 = bt1400.1 then ((laws_toLock.f x1373000 x1373001).bind fun bt1403 => ((laws_toStringS.f k x1).bind fun t1405 => ((impl_NeededCodes.f k bt1403.1 bt1403.2 t1405 x2 x3).bind fun bt1408 => ((laws_eqStringS.f k bt1408.1 x10).bind fun t1412 => (if t1412 = true then (laws_FnExactNeededCodes.j2 k bt1400.2 bt1400.1 (bt1408.2 != x11)) else (laws_FnExactNeededCodes.j2 k bt1400.2 bt1400.1 true)))))) else (some false)))))
def laws_FnExactNeededCodes.j2 : Nat → List ByteArray → Int → Bool → Option (Bool)
  | 0, _, _, _ => none
  | k + 1, x13, x16, x111 => if x111 = true then (some false) else ((laws_heldStringS.f k x13 1).bind fun t1413 => (if t1413 < 0 then (some false) else (if t1413 = x16 then (some true) else (some false))))
end
def laws_FnExactNeededCodes.f (k : Nat) (a0_0 : Int) (a0_1 : Int) (l1 : List ByteArray) (a2 : ByteArray) (a3 : ByteArray) : Option (Bool) := if (a2.size : Int) > 1048576 then (some true) else (if (a3.size : Int) > 1048576 then (some true) else ((laws_szStringS.f k l1 1048576).bind fun t1373 => (if t1373 < 0 then (some true) else ((laws_toLock.f a0_0 a0_1).bind fun bt1374 => ((laws_toStringS.f k l1).bind fun t1376 => ((spec_NeededCodes.f k bt1374.1 bt1374.2 t1376 a2 a3).bind fun bt1379 => ((laws_toStringS.f k l1).bind fun t1383 => ((laws_toLock.f a0_0 a0_1).bind fun bt1386 => ((impl_NeededCodes.f k bt1386.1 bt1386.2 t1383 a2 a3).bind fun bt1388 => ((laws_eqStringS.f k bt1388.1 bt1379.1).bind fun t1392 => (if t1392 = true then (laws_FnExactNeededCodes.j0 k l1 a2 a3 bt1379.1 bt1379.2 t1383 bt1388.1 bt1388.2 (bt1388.2 != bt1379.2) a0_0 a0_1) else (laws_FnExactNeededCodes.j0 k l1 a2 a3 bt1379.1 bt1379.2 t1383 bt1388.1 bt1388.2 true a0_0 a0_1))))))))))))
theorem laws_FnExactNeededCodes.mono_l : ∀ k, (∀ y0 y1 y2 y3 y4 y5 y6 y7 y8 y9 y10, LeO (laws_FnExactNeededCodes.j0 k y0 y1 y2 y3 y4 y5 y6 y7 y8 y9 y10) (laws_FnExactNeededCodes.j0 (k + 1) y0 y1 y2 y3 y4 y5 y6 y7 y8 y9 y10)) ∧ (∀ y0 y1 y2 y3 y4 y5 y6 y7 y8, LeO (laws_FnExactNeededCodes.j1 k y0 y1 y2 y3 y4 y5 y6 y7 y8) (laws_FnExactNeededCodes.j1 (k + 1) y0 y1 y2 y3 y4 y5 y6 y7 y8)) ∧ (∀ y0 y1 y2, LeO (laws_FnExactNeededCodes.j2 k y0 y1 y2) (laws_FnExactNeededCodes.j2 (k + 1) y0 y1 y2))
  | 0 => ⟨fun _ _ _ _ _ _ _ _ _ _ _ r h => by simp [laws_FnExactNeededCodes.j0] at h, fun _ _ _ _ _ _ _ _ _ r h => by simp [laws_FnExactNeededCodes.j1] at h, fun _ _ _ r h => by simp [laws_FnExactNeededCodes.j2] at h⟩
  | k + 1 => by
    obtain ⟨ih0, ih1, ih2⟩ := laws_FnExactNeededCodes.mono_l k
    refine ⟨?_, ?_, ?_⟩
    · intro y0 y1 y2 y3 y4 y5 y6 y7 y8 y9 y10
      unfold laws_FnExactNeededCodes.j0
      repeat' first
      | (with_reducible exact ih0 _ _ _ _ _ _ _ _ _ _ _)
      | (with_reducible exact ih1 _ _ _ _ _ _ _ _ _)
      | (with_reducible exact ih2 _ _ _)
      | (with_reducible exact impl_NeededCodes.mono _ _ _ _ _ _)
      | (with_reducible exact laws_eqStringS.mono _ _ _)
      | (with_reducible exact laws_heldStringS.mono _ _ _)
      | (with_reducible exact laws_markStringS.mono _ _ _)
      | (with_reducible exact laws_szStringS.mono _ _ _)
      | (with_reducible exact laws_toStringS.mono _ _)
      | (with_reducible exact spec_NeededCodes.mono _ _ _ _ _ _)
      | (with_reducible exact LeO.refl _)
      | (with_reducible exact LeO.none _)
      | (with_reducible refine LeO.ite ?_ ?_)
      | (with_reducible refine LeO.bind ?_ (fun _ => ?_))
      | exact ih0 _ _ _ _ _ _ _ _ _ _ _
      | exact ih1 _ _ _ _ _ _ _ _ _
      | exact ih2 _ _ _
      | exact impl_NeededCodes.mono _ _ _ _ _ _
      | exact laws_eqStringS.mono _ _ _
      | exact laws_heldStringS.mono _ _ _
      | exact laws_markStringS.mono _ _ _
      | exact laws_szStringS.mono _ _ _
      | exact laws_toStringS.mono _ _
      | exact spec_NeededCodes.mono _ _ _ _ _ _
      | exact LeO.none _
      | refine LeO.ite ?_ ?_
      | refine LeO.bind ?_ (fun _ => ?_)
    · intro y0 y1 y2 y3 y4 y5 y6 y7 y8
      unfold laws_FnExactNeededCodes.j1
      repeat' first
      | (with_reducible exact ih0 _ _ _ _ _ _ _ _ _ _ _)
      | (with_reducible exact ih1 _ _ _ _ _ _ _ _ _)
      | (with_reducible exact ih2 _ _ _)
      | (with_reducible exact impl_NeededCodes.mono _ _ _ _ _ _)
      | (with_reducible exact laws_eqStringS.mono _ _ _)
      | (with_reducible exact laws_heldStringS.mono _ _ _)
      | (with_reducible exact laws_markStringS.mono _ _ _)
      | (with_reducible exact laws_szStringS.mono _ _ _)
      | (with_reducible exact laws_toStringS.mono _ _)
      | (with_reducible exact spec_NeededCodes.mono _ _ _ _ _ _)
      | (with_reducible exact LeO.refl _)
      | (with_reducible exact LeO.none _)
      | (with_reducible refine LeO.ite ?_ ?_)
      | (with_reducible refine LeO.bind ?_ (fun _ => ?_))
      | exact ih0 _ _ _ _ _ _ _ _ _ _ _
      | exact ih1 _ _ _ _ _ _ _ _ _
      | exact ih2 _ _ _
      | exact impl_NeededCodes.mono _ _ _ _ _ _
      | exact laws_eqStringS.mono _ _ _
      | exact laws_heldStringS.mono _ _ _
      | exact laws_markStringS.mono _ _ _
      | exact laws_szStringS.mono _ _ _
      | exact laws_toStringS.mono _ _
      | exact spec_NeededCodes.mono _ _ _ _ _ _
      | exact LeO.none _
      | refine LeO.ite ?_ ?_
      | refine LeO.bind ?_ (fun _ => ?_)
    · intro y0 y1 y2
      unfold laws_FnExactNeededCodes.j2
      repeat' first
      | (with_reducible exact ih0 _ _ _ _ _ _ _ _ _ _ _)
      | (with_reducible exact ih1 _ _ _ _ _ _ _ _ _)
      | (with_reducible exact ih2 _ _ _)
      | (with_reducible exact impl_NeededCodes.mono _ _ _ _ _ _)
      | (with_reducible exact laws_eqStringS.mono _ _ _)
      | (with_reducible exact laws_heldStringS.mono _ _ _)
      | (with_reducible exact laws_markStringS.mono _ _ _)
      | (with_reducible exact laws_szStringS.mono _ _ _)
      | (with_reducible exact laws_toStringS.mono _ _)
      | (with_reducible exact spec_NeededCodes.mono _ _ _ _ _ _)
      | (with_reducible exact LeO.refl _)
      | (with_reducible exact LeO.none _)
      | (with_reducible refine LeO.ite ?_ ?_)
      | (with_reducible refine LeO.bind ?_ (fun _ => ?_))
      | exact ih0 _ _ _ _ _ _ _ _ _ _ _
      | exact ih1 _ _ _ _ _ _ _ _ _
      | exact ih2 _ _ _
      | exact impl_NeededCodes.mono _ _ _ _ _ _
      | exact laws_eqStringS.mono _ _ _
      | exact laws_heldStringS.mono _ _ _
      | exact laws_markStringS.mono _ _ _
      | exact laws_szStringS.mono _ _ _
      | exact laws_toStringS.mono _ _
      | exact spec_NeededCodes.mono _ _ _ _ _ _
      | exact LeO.none _
      | refine LeO.ite ?_ ?_
      | refine LeO.bind ?_ (fun _ => ?_)
theorem laws_FnExactNeededCodes.mono : ∀ a0 a1 a2 a3 a4 k, LeO (laws_FnExactNeededCodes.f k a0 a1 a2 a3 a4) (laws_FnExactNeededCodes.f (k + 1) a0 a1 a2 a3 a4) := by
  intro a0 a1 a2 a3 a4 k
  obtain ⟨ih0, ih1, ih2⟩ := laws_FnExactNeededCodes.mono_l k
  unfold laws_FnExactNeededCodes.f
  repeat' first
      | (with_reducible exact ih0 _ _ _ _ _ _ _ _ _ _ _)
      | (with_reducible exact ih1 _ _ _ _ _ _ _ _ _)
      | (with_reducible exact ih2 _ _ _)
      | (with_reducible exact impl_NeededCodes.mono _ _ _ _ _ _)
      | (with_reducible exact laws_eqStringS.mono _ _ _)
      | (with_reducible exact laws_heldStringS.mono _ _ _)
      | (with_reducible exact laws_markStringS.mono _ _ _)
      | (with_reducible exact laws_szStringS.mono _ _ _)
      | (with_reducible exact laws_toStringS.mono _ _)
      | (with_reducible exact spec_NeededCodes.mono _ _ _ _ _ _)
      | (with_reducible exact LeO.refl _)
      | (with_reducible exact LeO.none _)
      | (with_reducible refine LeO.ite ?_ ?_)
      | (with_reducible refine LeO.bind ?_ (fun _ => ?_))
      | exact ih0 _ _ _ _ _ _ _ _ _ _ _
      | exact ih1 _ _ _ _ _ _ _ _ _
      | exact ih2 _ _ _
      | exact impl_NeededCodes.mono _ _ _ _ _ _
      | exact laws_eqStringS.mono _ _ _
      | exact laws_heldStringS.mono _ _ _
      | exact laws_markStringS.mono _ _ _
      | exact laws_szStringS.mono _ _ _
      | exact laws_toStringS.mono _ _
      | exact spec_NeededCodes.mono _ _ _ _ _ _
      | exact LeO.none _
      | refine LeO.ite ?_ ?_
      | refine LeO.bind ?_ (fun _ => ?_)
set_option maxHeartbeats 8000000 in
set_option maxRecDepth 100000 in
theorem laws_FnExactNeededCodes.calls (k : Nat) (a0_0 : Int) (a0_1 : Int) (A1 : Option Addr) (c1 : Nat) (l1 : List ByteArray) (a2 : ByteArray) (a3 : ByteArray) (r : Bool) (w : World) (hr1 : Kd.C Kd.string w A1 l1.length l1) (hc1 : l1.length ≤ c1) (h : laws_FnExactNeededCodes.f k a0_0 a0_1 l1 a2 a3 = some r) (hr_ : r = true := by rfl) :
    Calls Try.prog 13 #[.agg #[.int .i64 a0_0, .int .i64 a0_1], .slice A1 l1.length c1, .string a2, .string a3] w fun e w' => e = .returned (.bool r) ∧ Below w.heap.size w w' := by
  have HRT := Aside0.mk hr_
  clear hr_
  have hu23 := Try.underlying23
  have HR1 := Aside0.mk hr1
  have HC1 := Aside0.mk hc1
  clear hr1 hc1
  have HB := Aside0.mk (Below.refl w.heap.size w)
  have H : (if (a2.size : Int) > 1048576 then (some true) else (if (a3.size : Int) > 1048576 then (some true) else ((laws_szStringS.f k l1 1048576).bind fun t1373 => (if t1373 < 0 then (some true) else ((laws_toLock.f a0_0 a0_1).bind fun bt1374 => ((laws_toStringS.f k l1).bind fun t1376 => ((spec_NeededCodes.f k bt1374.1 bt1374.2 t1376 a2 a3).bind fun bt1379 => ((laws_toStringS.f k l1).bind fun t1383 => ((laws_toLock.f a0_0 a0_1).bind fun bt1386 => ((impl_NeededCodes.f k bt1386.1 bt1386.2 t1383 a2 a3).bind fun bt1388 => ((laws_eqStringS.f k bt1388.1 bt1379.1).bind fun t1392 => (if t1392 = true then (laws_FnExactNeededCodes.j0 k l1 a2 a3 bt1379.1 bt1379.2 t1383 bt1388.1 bt1388.2 (bt1388.2 != bt1379.2) a0_0 a0_1) else (laws_FnExactNeededCodes.j0 k l1 a2 a3 bt1379.1 bt1379.2 t1383 bt1388.1 bt1388.2 true a0_0 a0_1))))))))))))) = some r := h
  clear h
  by_cases c5 : (a2.size : Int) > 1048576
  · rw [if_pos c5] at H
    have c5b0 : decide (1048576 < (a2.size : Int)) = true := decide_eq_true c5
    have c5b1 : decide (1048576 < a2.size) = true := decide_eq_true (by omega)
    clear c5
    obtain rfl := Option.some.inj H
    go_enter Try.func13, Try.ntmps13
    go_wp2_with (first | ((with_reducible refine gate_dst (N := 4) rfl ?_); refine box_event ?hg (N := 4) ?hd (cs := #[.int .i64 a0_0, .int .i64 a0_1]) (t := 23) ?hr ?_; (case hd => rfl); (case hg => rfl); (case hr => first | (go_simp; done) | (go_simp; rfl)); intro gb1372 hg w6 hbox hb; have n0_ := bsx hb HB; have n1_ := Aside0.mk (hbox); have n2_ := gwx hg HB; have n3_ := n2_; clear HB; have HB := n0_; have BK1372 := n1_; have GW1372 := n2_; have GE1372 := n3_; clear n0_ n1_ n2_ n3_; clear hb hbox hg))
    go_ret
    exact ⟨by first | rfl | (simp [errW_none, errW_some] <;> rfl) | (simp [*, errW_none, errW_some] <;> rfl), bB HB⟩
  rw [if_neg c5] at H
  have c5b0 : decide (1048576 < (a2.size : Int)) = false := decide_eq_false c5
  have c5b1 : decide (1048576 < a2.size) = false := decide_eq_false (by omega)
  clear c5
  by_cases c7 : (a3.size : Int) > 1048576
  · rw [if_pos c7] at H
    have c7b0 : decide (1048576 < (a3.size : Int)) = true := decide_eq_true c7
    have c7b1 : decide (1048576 < a3.size) = true := decide_eq_true (by omega)
    clear c7
    obtain rfl := Option.some.inj H
    go_enter Try.func13, Try.ntmps13
    go_wp2_with (first | ((with_reducible refine gate_dst (N := 4) rfl ?_); refine box_event ?hg (N := 4) ?hd (cs := #[.int .i64 a0_0, .int .i64 a0_1]) (t := 23) ?hr ?_; (case hd => rfl); (case hg => rfl); (case hr => first | (go_simp; done) | (go_simp; rfl)); intro gb1372 hg w8 hbox hb; have n0_ := bsx hb HB; have n1_ := Aside0.mk (hbox); have n2_ := gwx hg HB; have n3_ := n2_; clear HB; have HB := n0_; have BK1372 := n1_; have GW1372 := n2_; have GE1372 := n3_; clear n0_ n1_ n2_ n3_; clear hb hbox hg))
    go_ret
    exact ⟨by first | rfl | (simp [errW_none, errW_some] <;> rfl) | (simp [*, errW_none, errW_some] <;> rfl), bB HB⟩
  rw [if_neg c7] at H
  have c7b0 : decide (1048576 < (a3.size : Int)) = false := decide_eq_false c7
  have c7b1 : decide (1048576 < a3.size) = false := decide_eq_false (by omega)
  clear c7
  replace H := Option.bind_eq_some_iff.mp H
  obtain ⟨t1373, A90, H⟩ := H
  try dsimp only at H
  have A9 := Aside0.mk A90
  clear A90
  by_cases c10 : t1373 < 0
  · rw [if_pos c10] at H
    have c10b0 : decide (t1373 < 0) = true := decide_eq_true c10
    clear c10
    obtain rfl := Option.some.inj H
    go_enter Try.func13, Try.ntmps13
    go_wp2_with (first | ((with_reducible refine gate_dst (N := 4) rfl ?_); refine box_event ?hg (N := 4) ?hd (cs := #[.int .i64 a0_0, .int .i64 a0_1]) (t := 23) ?hr ?_; (case hd => rfl); (case hg => rfl); (case hr => first | (go_simp; done) | (go_simp; rfl)); intro gb1372 hg w11 hbox hb; have n0_ := bsx hb HB; have n1_ := Aside0.mk (hbox); have n2_ := gwx hg HB; have n3_ := n2_; clear HB; have HB := n0_; have BK1372 := n1_; have GW1372 := n2_; have GE1372 := n3_; clear n0_ n1_ n2_ n3_; clear hb hbox hg) | ((with_reducible refine gate_callee (f := 14) rfl ?_); refine goesL_ (some 28) rfl rfl Try.func14 (by kernel_rfl) rfl #[.slice A1 l1.length c1, .int .i64 1048576] rfl (by (try simp only [m_1, m_2, m_3]); first | done | rfl | (simp only [m_4, m_5]; rfl)) ?_; (with_reducible refine (laws_szStringS.calls k _ _ l1 1048576 t1373 _ ?side1 ?side2 A9.out).mono ?_); (case side1 => repeat (first | exact (Kd.C_below HR1.out HB.out) | (with_reducible refine Kd.C_alloc ?_ _) | (with_reducible refine Kd.C_drewN ?_ _) | (with_reducible refine Kd.C_drew ?_))); (case side2 => exact HC1.out); rintro e w' ⟨rfl, ⟨nd, rfl⟩⟩; refine ⟨_, rfl, ?_⟩))
    go_ret
    exact ⟨by first | rfl | (simp [errW_none, errW_some] <;> rfl) | (simp [*, errW_none, errW_some] <;> rfl), bB HB⟩
  rw [if_neg c10] at H
  have c10b0 : decide (t1373 < 0) = false := decide_eq_false c10
  clear c10
  replace H := Option.bind_eq_some_iff.mp H
  obtain ⟨⟨t1374, t1375⟩, A120, H⟩ := H
  try dsimp only at H
  have A12 := Aside0.mk A120
  clear A120
  replace H := Option.bind_eq_some_iff.mp H
  obtain ⟨t1376, A130, H⟩ := H
  try dsimp only at H
  have A13 := Aside0.mk A130
  clear A130
  replace H := Option.bind_eq_some_iff.mp H
  obtain ⟨⟨t1379, t1382⟩, A140, H⟩ := H
  try dsimp only at H
  have A14 := Aside0.mk A140
  clear A140
  replace H := Option.bind_eq_some_iff.mp H
  obtain ⟨t1383, A150, H⟩ := H
  try dsimp only at H
  have A15 := Aside0.mk A150
  clear A150
  replace H := Option.bind_eq_some_iff.mp H
  obtain ⟨⟨t1386, t1387⟩, A160, H⟩ := H
  try dsimp only at H
  have A16 := Aside0.mk A160
  clear A160
  replace H := Option.bind_eq_some_iff.mp H
  obtain ⟨⟨t1388, t1391⟩, A170, H⟩ := H
  try dsimp only at H
  have A17 := Aside0.mk A170
  clear A170
  have HC18 := Aside0.mk H
  clear H
  go_enter Try.func13, Try.ntmps13
  go_upto_region 12 with (first | ((with_reducible refine gate_dst (N := 4) rfl ?_); refine box_event ?hg (N := 4) ?hd (cs := #[.int .i64 a0_0, .int .i64 a0_1]) (t := 23) ?hr ?_; (case hd => rfl); (case hg => rfl); (case hr => first | (go_simp; done) | (go_simp; rfl)); intro gb1372 hg w19 hbox hb; have n0_ := bsx hb HB; have n1_ := Aside0.mk (hbox); have n2_ := gwx hg HB; have n3_ := n2_; clear HB; have HB := n0_; have BK1372 := n1_; have GW1372 := n2_; have GE1372 := n3_; clear n0_ n1_ n2_ n3_; clear hb hbox hg) | ((with_reducible refine gate_callee (f := 14) rfl ?_); refine goesL_ (some 28) rfl rfl Try.func14 (by kernel_rfl) rfl #[.slice A1 l1.length c1, .int .i64 1048576] rfl (by (try simp only [m_1, m_2, m_3]); first | done | rfl | (simp only [m_4, m_5]; rfl)) ?_; (with_reducible refine (laws_szStringS.calls k _ _ l1 1048576 t1373 _ ?side1 ?side2 A9.out).mono ?_); (case side1 => repeat (first | exact (Kd.C_below HR1.out HB.out) | (with_reducible refine Kd.C_alloc ?_ _) | (with_reducible refine Kd.C_drewN ?_ _) | (with_reducible refine Kd.C_drew ?_))); (case side2 => exact HC1.out); rintro e w' ⟨rfl, ⟨nd, rfl⟩⟩; refine ⟨_, rfl, ?_⟩; have hcz20_0 := cz0 BK1372; have hcz20_1 := cz1 BK1372; have hfz20_0 := blk_frozen BK1372.out 0; have hfz20_1 := blk_frozen BK1372.out 1) | ((with_reducible refine gate_callee (f := 16) rfl ?_); refine goesL_ (some 33) rfl rfl Try.func16 (by kernel_rfl) rfl #[.agg #[.int .i64 a0_0, .int .i64 a0_1]] rfl (by (try simp only [m_1, m_2, m_3]); first | done | rfl | (simp only [m_4, m_5]; rfl)) ?_; (with_reducible refine (laws_toLock.calls a0_0 a0_1 t1374 t1375 _ A12.out).mono ?_); rintro e w21 ⟨rfl, hb⟩; refine ⟨_, rfl, ?_⟩; replace BK1372 := bbx hb BK1372; replace HB := bsx hb HB; skip; (try clear hb); (try clear hb2); (try clear hk); (try clear hi)) | ((with_reducible refine gate_callee (f := 17) rfl ?_); refine goesL_ (some 35) rfl rfl Try.func17 (by kernel_rfl) rfl #[.slice A1 l1.length c1] rfl (by (try simp only [m_1, m_2, m_3]); first | done | rfl | (simp only [m_4, m_5]; rfl)) ?_; (with_reducible refine (laws_toStringS.calls k _ _ l1 t1376 _ ?side1 ?side2 A13.out).mono ?_); (case side1 => repeat (first | exact (Kd.C_below HR1.out HB.out) | (with_reducible refine Kd.C_alloc ?_ _) | (with_reducible refine Kd.C_drewN ?_ _) | (with_reducible refine Kd.C_drew ?_))); (case side2 => exact HC1.out); rintro e w22 ⟨v1377, rfl, ho0, hb⟩; refine ⟨_, rfl, ?_⟩; have n0_ := Aside0.mk (Kd.R_lower ho0 (below_size (bB HB))); replace BK1372 := bbx hb BK1372; have n2_ := bsx hb HB; clear HB; have HO1378 := n0_; have HB := n2_; clear n0_ n2_; (try clear hb); (try clear hb2); (try clear hk); (try clear hi); (try clear ho0); obtain ⟨Ao23, co23, eo23⟩ := Kd.R_slice HO1378.out; subst eo23) | ((with_reducible refine gate_callee (f := 47) rfl ?_); refine goesL_ (some 38) rfl rfl Try.func47 (by kernel_rfl) rfl #[.agg #[.int .i64 t1374, .int .i64 t1375], .slice Ao23 t1376.length co23, .string a2, .string a3] rfl (by (try simp only [m_1, m_2, m_3]); first | done | rfl | (simp only [m_4, m_5]; rfl)) ?_; (with_reducible refine (spec_NeededCodes.calls k t1374 t1375 _ _ t1376 a2 a3 t1379 t1382 _ ?side1 ?side2 A14.out).mono ?_); (case side1 => repeat (first | exact (Kd.R_reads' HO1378.out).2.2 | (with_reducible refine Kd.C_alloc ?_ _) | (with_reducible refine Kd.C_drewN ?_ _) | (with_reducible refine Kd.C_drew ?_))); (case side2 => exact (Kd.R_reads' HO1378.out).2.1); rintro e w24 ⟨v1380, rfl, ho0, hb⟩; refine ⟨_, rfl, ?_⟩; have n0_ := Aside0.mk (Kd.R_elder' (by (with_reducible repeat (first | apply r_a | apply r_d | apply r_e)); exact HO1378.out) (Kd.R_base ho0) hb); have n1_ := Aside0.mk (Kd.R_lower (Kd.R_new' ho0 (Kd.R_lt (by (with_reducible repeat (first | apply r_a | apply r_d | apply r_e)); exact HO1378.out))) (below_size (bB HB))); replace BK1372 := bbx hb BK1372; have n3_ := bsx hb HB; clear HO1378; clear HB; have HO1378 := n0_; have HO1381 := n1_; have HB := n3_; clear n0_ n1_ n3_; (try clear hb); (try clear hb2); (try clear hk); (try clear hi); (try clear ho0)) | ((with_reducible refine gate_callee (f := 17) rfl ?_); refine goesL_ (some 42) rfl rfl Try.func17 (by kernel_rfl) rfl #[.slice A1 l1.length c1] rfl (by (try simp only [m_1, m_2, m_3]); first | done | rfl | (simp only [m_4, m_5]; rfl)) ?_; (with_reducible refine (laws_toStringS.calls k _ _ l1 t1383 _ ?side1 ?side2 A15.out).mono ?_); (case side1 => repeat (first | exact (Kd.C_below HR1.out HB.out) | (with_reducible refine Kd.C_alloc ?_ _) | (with_reducible refine Kd.C_drewN ?_ _) | (with_reducible refine Kd.C_drew ?_))); (case side2 => exact HC1.out); rintro e w25 ⟨v1384, rfl, ho0, hb⟩; refine ⟨_, rfl, ?_⟩; have n0_ := Aside0.mk (Kd.R_elder' (by (with_reducible repeat (first | apply r_a | apply r_d | apply r_e)); exact HO1378.out) (Kd.R_base ho0) hb); have n1_ := Aside0.mk (Kd.R_elder' (by (with_reducible repeat (first | apply r_a | apply r_d | apply r_e)); exact HO1381.out) (Kd.R_base ho0) hb); have n2_ := Aside0.mk (Kd.R_lower (Kd.R_new' (Kd.R_new' ho0 (Kd.R_lt (by (with_reducible repeat (first | apply r_a | apply r_d | apply r_e)); exact HO1378.out))) (Kd.R_lt (by (with_reducible repeat (first | apply r_a | apply r_d | apply r_e)); exact HO1381.out))) (below_size (bB HB))); replace BK1372 := bbx hb BK1372; have n4_ := bsx hb HB; clear HO1378; clear HO1381; clear HB; have HO1378 := n0_; have HO1381 := n1_; have HO1385 := n2_; have HB := n4_; clear n0_ n1_ n2_ n4_; (try clear hb); (try clear hb2); (try clear hk); (try clear hi); (try clear ho0); have hcz26_0 := cz0 BK1372; have hcz26_1 := cz1 BK1372; have hfz26_0 := blk_frozen BK1372.out 0; have hfz26_1 := blk_frozen BK1372.out 1) | ((with_reducible refine gate_callee (f := 16) rfl ?_); refine goesL_ (some 45) rfl rfl Try.func16 (by kernel_rfl) rfl #[.agg #[.int .i64 a0_0, .int .i64 a0_1]] rfl (by (try simp only [m_1, m_2, m_3]); first | done | rfl | (simp only [m_4, m_5]; rfl)) ?_; (with_reducible refine (laws_toLock.calls a0_0 a0_1 t1386 t1387 _ A16.out).mono ?_); rintro e w27 ⟨rfl, hb⟩; refine ⟨_, rfl, ?_⟩; have n0_ := Aside0.mk (Kd.R_below (by (with_reducible repeat (first | apply r_a | apply r_d | apply r_e)); exact HO1378.out) hb); have n1_ := Aside0.mk (Kd.R_below (by (with_reducible repeat (first | apply r_a | apply r_d | apply r_e)); exact HO1381.out) hb); have n2_ := Aside0.mk (Kd.R_below (by (with_reducible repeat (first | apply r_a | apply r_d | apply r_e)); exact HO1385.out) hb); replace BK1372 := bbx hb BK1372; replace HB := bsx hb HB; clear HO1378; clear HO1381; clear HO1385; have HO1378 := n0_; have HO1381 := n1_; have HO1385 := n2_; clear n0_ n1_ n2_; (try clear hb); (try clear hb2); (try clear hk); (try clear hi); obtain ⟨Ao28, co28, eo28⟩ := Kd.R_slice HO1385.out; subst eo28) | ((with_reducible refine gate_callee (f := 48) rfl ?_); refine goesL_ (some 49) rfl rfl Try.func48 (by kernel_rfl) rfl #[.agg #[.int .i64 t1386, .int .i64 t1387], .slice Ao28 t1383.length co28, .string a2, .string a3] rfl (by (try simp only [m_1, m_2, m_3]); first | done | rfl | (simp only [m_4, m_5]; rfl)) ?_; (with_reducible refine (impl_NeededCodes.calls k t1386 t1387 _ _ t1383 a2 a3 t1388 t1391 _ ?side1 ?side2 A17.out).mono ?_); (case side1 => repeat (first | exact (Kd.R_reads' HO1385.out).2.2 | (with_reducible refine Kd.C_alloc ?_ _) | (with_reducible refine Kd.C_drewN ?_ _) | (with_reducible refine Kd.C_drew ?_))); (case side2 => exact (Kd.R_reads' HO1385.out).2.1); rintro e w29 ⟨v1389, rfl, ho0, hb⟩; refine ⟨_, rfl, ?_⟩; have n0_ := Aside0.mk (Kd.R_elder' (by (with_reducible repeat (first | apply r_a | apply r_d | apply r_e)); exact HO1378.out) (Kd.R_base ho0) hb); have n1_ := Aside0.mk (Kd.R_elder' (by (with_reducible repeat (first | apply r_a | apply r_d | apply r_e)); exact HO1381.out) (Kd.R_base ho0) hb); have n2_ := Aside0.mk (Kd.R_elder' (by (with_reducible repeat (first | apply r_a | apply r_d | apply r_e)); exact HO1385.out) (Kd.R_base ho0) hb); have n3_ := Aside0.mk (Kd.R_lower (Kd.R_new' (Kd.R_new' (Kd.R_new' ho0 (Kd.R_lt (by (with_reducible repeat (first | apply r_a | apply r_d | apply r_e)); exact HO1378.out))) (Kd.R_lt (by (with_reducible repeat (first | apply r_a | apply r_d | apply r_e)); exact HO1381.out))) (Kd.R_lt (by (with_reducible repeat (first | apply r_a | apply r_d | apply r_e)); exact HO1385.out))) (below_size (bB HB))); replace BK1372 := bbx hb BK1372; have n5_ := bsx hb HB; clear HO1378; clear HO1381; clear HO1385; clear HB; have HO1378 := n0_; have HO1381 := n1_; have HO1385 := n2_; have HO1390 := n3_; have HB := n5_; clear n0_ n1_ n2_ n3_ n5_; (try clear hb); (try clear hb2); (try clear hk); (try clear hi); (try clear ho0)))
  (try simp only [Act.put, s_1, s_2, s_3])
  go_cut [60] from 1 to 0 (fun v60 wc => ∃ (kq : Nat) (x60_17 : Bool), v60 = .bool x60_17 ∧ Aside0 (laws_FnExactNeededCodes.j0 kq l1 a2 a3 t1379 t1382 t1383 t1388 t1391 x60_17 a0_0 a0_1 = some r) ∧ Aside0 (kq ≤ k) ∧ Aside0 (Kd.R Kd.string 9 wc w.heap.size (fun k_ => some k_ ≠ ((.slice Ao28 t1383.length co28) : Value).ownBlock ∧ some k_ ≠ (v1389 : Value).ownBlock) v1380 t1379) ∧ Aside0 (Kd.R Kd.string 9 wc w.heap.size (fun k_ => some k_ ≠ (v1380 : Value).ownBlock ∧ some k_ ≠ (v1389 : Value).ownBlock) (.slice Ao28 t1383.length co28) t1383) ∧ Aside0 (Kd.R Kd.string 9 wc w.heap.size (fun k_ => some k_ ≠ (v1380 : Value).ownBlock ∧ some k_ ≠ ((.slice Ao28 t1383.length co28) : Value).ownBlock) v1389 t1388) ∧ Aside0 (wc.heap[gb1372]? = some (.cells #[.int .i64 a0_0, .int .i64 a0_1] 23 (0, 0))) ∧ Aside0 (Below w.heap.size w wc))
  case first => as_aux_lemma =>
    have H := HC18.out
    clear HC18
    replace H := Option.bind_eq_some_iff.mp H
    obtain ⟨t1392, A300, H⟩ := H
    try dsimp only at H
    have A30 := Aside0.mk A300
    clear A300
    by_cases c31 : t1392 = true
    rotate_left
    · replace c31 := Bool.eq_false_iff.mpr c31
      subst c31
      rw [if_neg (show ¬ (false = true) by decide)] at H
      rw [HRT.out] at H
      exact absurd H (by generalize k = q_; cases q_ <;> simp [laws_FnExactNeededCodes.j0])
    subst c31
    rw [if_pos rfl] at H
    have H' := Aside0.mk H
    clear H
    obtain ⟨Ao32, co32, eo32⟩ := Kd.R_slice HO1390.out
    subst eo32
    obtain ⟨Ao33, co33, eo33⟩ := Kd.R_slice HO1381.out
    subst eo33
    go_wp2_with (first | ((with_reducible refine gate_callee (f := 19) rfl ?_); refine goesL_ (some 54) rfl rfl Try.func19 (by kernel_rfl) rfl #[.slice Ao32 t1388.length co32, .slice Ao33 t1379.length co33] rfl (by (try simp only [m_1, m_2, m_3]); first | done | rfl | (simp only [m_4, m_5]; rfl)) ?_; (with_reducible refine (laws_eqStringS.calls k _ _ t1388 _ _ t1379 true _ ?side1 ?side2 ?side3 ?side4 A30.out).mono ?_); (case side1 => repeat (first | exact (Kd.R_reads' HO1390.out).2.2 | (with_reducible refine Kd.C_alloc ?_ _) | (with_reducible refine Kd.C_drewN ?_ _) | (with_reducible refine Kd.C_drew ?_))); (case side2 => exact (Kd.R_reads' HO1390.out).2.1); (case side3 => repeat (first | exact (Kd.R_reads' HO1381.out).2.2 | (with_reducible refine Kd.C_alloc ?_ _) | (with_reducible refine Kd.C_drewN ?_ _) | (with_reducible refine Kd.C_drew ?_))); (case side4 => exact (Kd.R_reads' HO1381.out).2.1); rintro e w' ⟨rfl, ⟨nd, rfl⟩⟩; refine ⟨_, rfl, ?_⟩))
    go_meet
    case rel => exact ⟨_, ((t1391 != t1382)), (by first | rfl | (simp; done) | (simp [*]; done)), H', ⟨by first | omega | exact Nat.le_refl _⟩, ⟨by (with_reducible repeat (first | apply r_a | apply r_d | apply r_e)); exact Kd.R_mono HO1381.out (fun _ hk => ⟨hk.1.2, hk.2⟩)⟩, ⟨by (with_reducible repeat (first | apply r_a | apply r_d | apply r_e)); exact Kd.R_mono HO1385.out (fun _ hk => ⟨hk.1.2, hk.2⟩)⟩, ⟨by (with_reducible repeat (first | apply r_a | apply r_d | apply r_e)); exact Kd.R_mono HO1390.out (fun _ hk => ⟨hk.1.2, hk.2⟩)⟩, ⟨bK BK1372⟩, ⟨bB HB⟩⟩
  clear HC18
  try clear c1
  try clear c5
  try clear c5b0
  try clear c5b1
  try clear c7
  try clear c7b0
  try clear c7b1
  try clear c10
  try clear c10b0
  try clear hcz20_0
  try clear hcz20_1
  try clear hcz26_0
  try clear hcz26_1
  try clear hfz20_0
  try clear hfz20_1
  try clear hfz26_0
  try clear hfz26_1
  obtain ⟨kq, x60_17, rfl, HA, HJ17, HO_10, HO_12, HO_13, BK1372, HB⟩ := hcut
  rcases kq with _ | kj17
  · exact absurd HA.out (by simp [laws_FnExactNeededCodes.j0])
  have H := HA.out
  clear HA
  simp only [laws_FnExactNeededCodes.j0] at H
  by_cases c34 : x60_17 = true
  · subst c34
    rw [if_pos rfl] at H
    rw [HRT.out] at H
    exact absurd H (by simp)
  replace c34 := Bool.eq_false_iff.mpr c34
  subst c34
  rw [if_neg (show ¬ (false = true) by decide)] at H
  replace H := Option.bind_eq_some_iff.mp H
  obtain ⟨t1393, A350, H⟩ := H
  try dsimp only at H
  have A35 := Aside0.mk A350
  clear A350
  replace H := Option.bind_eq_some_iff.mp H
  obtain ⟨t1396, A360, H⟩ := H
  try dsimp only at H
  have A36 := Aside0.mk A360
  clear A360
  by_cases c37 : t1396 = true
  rotate_left
  · replace c37 := Bool.eq_false_iff.mpr c37
    subst c37
    rw [if_neg (show ¬ (false = true) by decide)] at H
    rw [HRT.out] at H
    exact absurd H (by simp)

  subst c37
  rw [if_pos rfl] at H
  replace H := Option.bind_eq_some_iff.mp H
  obtain ⟨⟨t1397, t1398⟩, A380, H⟩ := H
  try dsimp only at H
  have A38 := Aside0.mk A380
  clear A380
  have HC39 := Aside0.mk H
  clear H
  go_upto_region 18 with (first | ((with_reducible refine gate_callee (f := 17) rfl ?_); refine goesL_ (some 63) rfl rfl Try.func17 (by kernel_rfl) rfl #[.slice A1 l1.length c1] rfl (by (try simp only [m_1, m_2, m_3]); first | done | rfl | (simp only [m_4, m_5]; rfl)) ?_; (with_reducible refine (laws_toStringS.calls kj17 _ _ l1 t1393 _ ?side1 ?side2 A35.out).mono ?_); (case side1 => repeat (first | exact (Kd.C_below HR1.out HB.out) | (with_reducible refine Kd.C_alloc ?_ _) | (with_reducible refine Kd.C_drewN ?_ _) | (with_reducible refine Kd.C_drew ?_))); (case side2 => exact HC1.out); rintro e w40 ⟨v1394, rfl, ho0, hb⟩; refine ⟨_, rfl, ?_⟩; have n0_ := Aside0.mk (Kd.R_elder' (by (with_reducible repeat (first | apply r_a | apply r_d | apply r_e)); exact HO_10.out) (Kd.R_base ho0) hb); have n1_ := Aside0.mk (Kd.R_elder' (by (with_reducible repeat (first | apply r_a | apply r_d | apply r_e)); exact HO_12.out) (Kd.R_base ho0) hb); have n2_ := Aside0.mk (Kd.R_elder' (by (with_reducible repeat (first | apply r_a | apply r_d | apply r_e)); exact HO_13.out) (Kd.R_base ho0) hb); have n3_ := Aside0.mk (Kd.R_lower (Kd.R_new' (Kd.R_new' (Kd.R_new' ho0 (Kd.R_lt (by (with_reducible repeat (first | apply r_a | apply r_d | apply r_e)); exact HO_10.out))) (Kd.R_lt (by (with_reducible repeat (first | apply r_a | apply r_d | apply r_e)); exact HO_12.out))) (Kd.R_lt (by (with_reducible repeat (first | apply r_a | apply r_d | apply r_e)); exact HO_13.out))) (below_size (bB HB))); replace BK1372 := bbx hb BK1372; have n5_ := bsx hb HB; clear HO_10; clear HO_12; clear HO_13; clear HB; have HO_10 := n0_; have HO_12 := n1_; have HO_13 := n2_; have HO1395 := n3_; have HB := n5_; clear n0_ n1_ n2_ n3_ n5_; (try clear hb); (try clear hb2); (try clear hk); (try clear hi); (try clear ho0); obtain ⟨Ao41, co41, eo41⟩ := Kd.R_slice HO1395.out; subst eo41) | ((with_reducible refine gate_callee (f := 19) rfl ?_); refine goesL_ (some 64) rfl rfl Try.func19 (by kernel_rfl) rfl #[.slice Ao28 t1383.length co28, .slice Ao41 t1393.length co41] rfl (by (try simp only [m_1, m_2, m_3]); first | done | rfl | (simp only [m_4, m_5]; rfl)) ?_; (with_reducible refine (laws_eqStringS.calls kj17 _ _ t1383 _ _ t1393 true _ ?side1 ?side2 ?side3 ?side4 A36.out).mono ?_); (case side1 => repeat (first | exact (Kd.R_reads' HO_12.out).2.2 | (with_reducible refine Kd.C_alloc ?_ _) | (with_reducible refine Kd.C_drewN ?_ _) | (with_reducible refine Kd.C_drew ?_))); (case side2 => exact (Kd.R_reads' HO_12.out).2.1); (case side3 => repeat (first | exact (Kd.R_reads' HO1395.out).2.2 | (with_reducible refine Kd.C_alloc ?_ _) | (with_reducible refine Kd.C_drewN ?_ _) | (with_reducible refine Kd.C_drew ?_))); (case side4 => exact (Kd.R_reads' HO1395.out).2.1); rintro e w' ⟨rfl, ⟨nd, rfl⟩⟩; refine ⟨_, rfl, ?_⟩) | ((with_reducible refine gate_callee (f := 27) rfl ?_); refine goesL_ (some 68) rfl rfl Try.func27 (by kernel_rfl) rfl #[.slice Ao28 t1383.length co28, .int .i64 1] rfl (by (try simp only [m_1, m_2, m_3]); first | done | rfl | (simp only [m_4, m_5]; rfl)) ?_; (with_reducible refine (laws_markStringS.calls kj17 (fun k_ => some k_ = (.slice Ao28 t1383.length co28 : Value).ownBlock) (.slice Ao28 t1383.length co28) t1383 1 t1397 t1398 w _ ?side1 ?side2 A38.out).mono ?_); (case side1 => exact bB HB); (case side2 => exact Kd.R_tight rfl HO_12.out); rintro e w42 ⟨rfl, hy0, hb, hkp⟩; refine ⟨_, rfl, ?_⟩; have n0_ := Aside0.mk (Kd.R_mono (ok' := fun k_ => some k_ ≠ (.slice Ao28 t1383.length co28 : Value).ownBlock ∧ some k_ ≠ (v1389 : Value).ownBlock ∧ some k_ ≠ (.slice Ao41 t1393.length co41 : Value).ownBlock) (Kd.R_keptB (HO_10.out) hkp (fun k_ hk_ hs_ => (hk_.1.1) hs_)) (fun k_ hk_ => ⟨hk_.1.1.1, hk_.1.1.2, hk_.1.2⟩)); have n1_ := Aside0.mk (Kd.R_reok rfl hy0 (fun k_ e_ => HO_12.out.1 k_ e_)); have n2_ := Aside0.mk (Kd.R_mono (ok' := fun k_ => some k_ ≠ (v1380 : Value).ownBlock ∧ some k_ ≠ (.slice Ao28 t1383.length co28 : Value).ownBlock ∧ some k_ ≠ (.slice Ao41 t1393.length co41 : Value).ownBlock) (Kd.R_keptB (HO_13.out) hkp (fun k_ hk_ hs_ => (hk_.1.2) hs_)) (fun k_ hk_ => ⟨hk_.1.1.1, hk_.1.1.2, hk_.1.2⟩)); have n3_ := Aside0.mk (blk_kept (bK BK1372) hkp (fun hs_ => (fun e_ => (Kd.R_ne HO_12.out BK1372.out (by decide)) e_) hs_)); have n4_ := Aside0.mk (Kd.R_mono (ok' := fun k_ => some k_ ≠ (v1380 : Value).ownBlock ∧ some k_ ≠ (.slice Ao28 t1383.length co28 : Value).ownBlock ∧ some k_ ≠ (v1389 : Value).ownBlock) (Kd.R_keptB (HO1395.out) hkp (fun k_ hk_ hs_ => (hk_.1.2) hs_)) (fun k_ hk_ => ⟨hk_.1.1.1.2, hk_.1.1.2, hk_.1.2⟩)); have n5_ := Aside0.mk (hb); clear HO_10; clear HO_12; clear HO_13; clear BK1372; clear HO1395; clear HB; have HO_10 := n0_; have HO_12 := n1_; have HO_13 := n2_; have BK1372 := n3_; have HO1395 := n4_; have HB := n5_; clear n0_ n1_ n2_ n3_ n4_ n5_; (try clear hb); (try clear hkp); (try clear hy0)))
  (try simp only [Act.put, s_1, s_2, s_3])
  go_cut [81] from 1 to 0 (fun v81 wc => ∃ (kq : Nat) (x81_38 : Bool), v81 = .bool x81_38 ∧ Aside0 (laws_FnExactNeededCodes.j1 kq l1 a2 a3 t1379 t1382 t1388 x81_38 a0_0 a0_1 = some r) ∧ Aside0 (kq ≤ kj17) ∧ Aside0 (Kd.R Kd.string 9 wc w.heap.size (fun k_ => some k_ ≠ (v1389 : Value).ownBlock) v1380 t1379) ∧ Aside0 (Kd.R Kd.string 9 wc w.heap.size (fun k_ => some k_ ≠ (v1380 : Value).ownBlock) v1389 t1388) ∧ Aside0 (wc.heap[gb1372]? = some (.cells #[.int .i64 a0_0, .int .i64 a0_1] 23 (0, 0))) ∧ Aside0 (Below w.heap.size w wc))
  case first => as_aux_lemma =>
    have H := HC39.out
    clear HC39
    by_cases c43 : t1397 < 0
    · rw [if_pos c43] at H
      have c43b0 : decide (t1397 < 0) = true := decide_eq_true c43
      clear c43
      (first | rw [c43b0] | (simp only [i64_w, i32_w]; rw [c43b0]) | skip)
      rw [HRT.out] at H
      exact absurd H (by generalize kj17 = q_; cases q_ <;> simp [laws_FnExactNeededCodes.j1])
    rw [if_neg c43] at H
    have c43b0 : decide (t1397 < 0) = false := decide_eq_false c43
    clear c43
    (first | rw [c43b0] | (simp only [i64_w, i32_w]; rw [c43b0]) | skip)
    replace H := Option.bind_eq_some_iff.mp H
    obtain ⟨t1399, A440, H⟩ := H
    try dsimp only at H
    have A44 := Aside0.mk A440
    clear A440
    by_cases c45 : t1399 = true
    rotate_left
    · replace c45 := Bool.eq_false_iff.mpr c45
      subst c45
      rw [if_neg (show ¬ (false = true) by decide)] at H
      rw [HRT.out] at H
      exact absurd H (by generalize kj17 = q_; cases q_ <;> simp [laws_FnExactNeededCodes.j1])
    subst c45
    rw [if_pos rfl] at H
    have H' := Aside0.mk H
    clear H
    obtain ⟨Ao46, co46, eo46⟩ := Kd.R_slice HO_13.out
    subst eo46
    obtain ⟨Ao47, co47, eo47⟩ := Kd.R_slice HO_10.out
    subst eo47
    go_wp2_with (first | (go_at_call 19; (with_reducible refine (laws_eqStringS.calls kj17 _ _ t1388 _ _ t1379 true _ ?side1 ?side2 ?side3 ?side4 A44.out).mono ?_); (case side1 => repeat (first | exact (Kd.R_reads' HO_13.out).2.2 | (with_reducible refine Kd.C_alloc ?_ _) | (with_reducible refine Kd.C_drewN ?_ _) | (with_reducible refine Kd.C_drew ?_))); (case side2 => exact (Kd.R_reads' HO_13.out).2.1); (case side3 => repeat (first | exact (Kd.R_reads' HO_10.out).2.2 | (with_reducible refine Kd.C_alloc ?_ _) | (with_reducible refine Kd.C_drewN ?_ _) | (with_reducible refine Kd.C_drew ?_))); (case side4 => exact (Kd.R_reads' HO_10.out).2.1); rintro e w' ⟨rfl, ⟨nd, rfl⟩⟩))
    go_meet
    case rel => exact ⟨_, ((t1391 != t1382)), (by first | rfl | (simp; done) | (simp [*]; done)), H', ⟨by have := HJ17.out; first | omega | exact Nat.le_refl _⟩, ⟨by (with_reducible repeat (first | apply r_a | apply r_d | apply r_e)); exact Kd.R_mono HO_10.out (fun _ hk => hk.2.1)⟩, ⟨by (with_reducible repeat (first | apply r_a | apply r_d | apply r_e)); exact Kd.R_mono HO_13.out (fun _ hk => hk.1)⟩, ⟨bK BK1372⟩, ⟨bB HB⟩⟩
  clear HC39
  try clear c1
  try clear c34
  try clear c37
  obtain ⟨kq, x81_38, rfl, HA, HJ38, HO_10, HO_13, BK1372, HB⟩ := hcut
  rcases kq with _ | kj38
  · exact absurd HA.out (by simp [laws_FnExactNeededCodes.j1])
  have H := HA.out
  clear HA
  simp only [laws_FnExactNeededCodes.j1] at H
  by_cases c48 : x81_38 = true
  · subst c48
    rw [if_pos rfl] at H
    rw [HRT.out] at H
    exact absurd H (by simp)
  replace c48 := Bool.eq_false_iff.mpr c48
  subst c48
  rw [if_neg (show ¬ (false = true) by decide)] at H
  replace H := Option.bind_eq_some_iff.mp H
  obtain ⟨⟨t1400, t1401⟩, A490, H⟩ := H
  try dsimp only at H
  have A49 := Aside0.mk A490
  clear A490
  replace H := Option.bind_eq_some_iff.mp H
  obtain ⟨t1402, A500, H⟩ := H
  try dsimp only at H
  have A50 := Aside0.mk A500
  clear A500
  by_cases c51 : t1402 < 0
  · rw [if_pos c51] at H
    have c51b0 : decide (t1402 < 0) = true := decide_eq_true c51
    clear c51
    rw [HRT.out] at H
    exact absurd H (by simp)
  rw [if_neg c51] at H
  have c51b0 : decide (t1402 < 0) = false := decide_eq_false c51
  clear c51
  by_cases c52 : t1402 = t1400
  rotate_left
  · rw [if_neg c52] at H
    have c52b0 : (t1402 == t1400) = false := beq_eq_false_iff_ne.mpr c52
    have c52b1 : (t1402 != t1400) = true := bne_iff_ne.mpr c52
    rw [HRT.out] at H
    exact absurd H (by simp)
  rw [if_pos c52] at H
  have c52b0 : (t1402 == t1400) = true := beq_iff_eq.mpr c52
  have c52b1 : (t1402 != t1400) = false := bne_eq_false_iff_eq.mpr c52
  clear c52
  replace H := Option.bind_eq_some_iff.mp H
  obtain ⟨⟨t1403, t1404⟩, A530, H⟩ := H
  try dsimp only at H
  have A53 := Aside0.mk A530
  clear A530
  replace H := Option.bind_eq_some_iff.mp H
  obtain ⟨t1405, A540, H⟩ := H
  try dsimp only at H
  have A54 := Aside0.mk A540
  clear A540
  replace H := Option.bind_eq_some_iff.mp H
  obtain ⟨⟨t1408, t1411⟩, A550, H⟩ := H
  try dsimp only at H
  have A55 := Aside0.mk A550
  clear A550
  have HC56 := Aside0.mk H
  clear H
  obtain ⟨Ao57, co57, eo57⟩ := Kd.R_slice HO_13.out
  subst eo57
  go_upto_region 29 with (first | ((with_reducible refine gate_callee (f := 27) rfl ?_); refine goesL_ (some 84) rfl rfl Try.func27 (by kernel_rfl) rfl #[.slice Ao57 t1388.length co57, .int .i64 1] rfl (by (try simp only [m_1, m_2, m_3]); first | done | rfl | (simp only [m_4, m_5]; rfl)) ?_; (with_reducible refine (laws_markStringS.calls kj38 (fun k_ => some k_ = (.slice Ao57 t1388.length co57 : Value).ownBlock) (.slice Ao57 t1388.length co57) t1388 1 t1400 t1401 w _ ?side1 ?side2 A49.out).mono ?_); (case side1 => exact bB HB); (case side2 => exact Kd.R_tight rfl HO_13.out); rintro e w58 ⟨rfl, hy0, hb, hkp⟩; refine ⟨_, rfl, ?_⟩; have n0_ := Aside0.mk (Kd.R_mono (ok' := fun k_ => some k_ ≠ (.slice Ao57 t1388.length co57 : Value).ownBlock) (Kd.R_keptB (HO_10.out) hkp (fun k_ hk_ hs_ => (hk_) hs_)) (fun k_ hk_ => hk_.1)); have n1_ := Aside0.mk (Kd.R_reok rfl hy0 (fun k_ e_ => HO_13.out.1 k_ e_)); have n2_ := Aside0.mk (blk_kept (bK BK1372) hkp (fun hs_ => (fun e_ => (Kd.R_ne HO_13.out BK1372.out (by decide)) e_) hs_)); have n3_ := Aside0.mk (hb); clear HO_10; clear HO_13; clear BK1372; clear HB; have HO_10 := n0_; have HO_13 := n1_; have BK1372 := n2_; have HB := n3_; clear n0_ n1_ n2_ n3_; (try clear hb); (try clear hkp); (try clear hy0)) | ((with_reducible refine gate_callee (f := 38) rfl ?_); refine goesL_ (some 87) rfl rfl Try.func38 (by kernel_rfl) rfl #[.slice Ao57 t1401.length co57, .int .i64 1] rfl (by (try simp only [m_1, m_2, m_3]); first | done | (rw [show t1401.length = t1388.length from (Kd.R_reads' HO_13.out).1.symm] <;> rfl) | rfl | (simp only [m_4, m_5]; rfl)) ?_; (with_reducible refine (laws_heldStringS.calls kj38 _ _ t1401 1 t1402 _ ?side1 ?side2 A50.out).mono ?_); (case side1 => repeat (first | exact (Kd.R_reads' HO_13.out).2.2 | (with_reducible refine Kd.C_alloc ?_ _) | (with_reducible refine Kd.C_drewN ?_ _) | (with_reducible refine Kd.C_drew ?_))); (case side2 => rw [show t1401.length = t1388.length from (Kd.R_reads' HO_13.out).1.symm]; exact (Kd.R_reads' HO_13.out).2.1); rintro e w59 ⟨rfl, hb⟩; refine ⟨_, rfl, ?_⟩; have n0_ := Aside0.mk (Kd.R_below (by (with_reducible repeat (first | apply r_a | apply r_d | apply r_e)); exact HO_10.out) hb); have n1_ := Aside0.mk (Kd.R_below (by (with_reducible repeat (first | apply r_a | apply r_d | apply r_e)); exact HO_13.out) hb); replace BK1372 := bbx hb BK1372; replace HB := bsx hb HB; clear HO_10; clear HO_13; have HO_10 := n0_; have HO_13 := n1_; clear n0_ n1_; (try clear hb); (try clear hb2); (try clear hk); (try clear hi); have hcz60_0 := cz0 BK1372; have hcz60_1 := cz1 BK1372; have hfz60_0 := blk_frozen BK1372.out 0; have hfz60_1 := blk_frozen BK1372.out 1) | ((with_reducible refine gate_callee (f := 16) rfl ?_); refine goesL_ (some 95) rfl rfl Try.func16 (by kernel_rfl) rfl #[.agg #[.int .i64 a0_0, .int .i64 a0_1]] rfl (by (try simp only [m_1, m_2, m_3]); first | done | rfl | (simp only [m_4, m_5]; rfl)) ?_; (with_reducible refine (laws_toLock.calls a0_0 a0_1 t1403 t1404 _ A53.out).mono ?_); rintro e w61 ⟨rfl, hb⟩; refine ⟨_, rfl, ?_⟩; have n0_ := Aside0.mk (Kd.R_below (by (with_reducible repeat (first | apply r_a | apply r_d | apply r_e)); exact HO_10.out) hb); have n1_ := Aside0.mk (Kd.R_below (by (with_reducible repeat (first | apply r_a | apply r_d | apply r_e)); exact HO_13.out) hb); replace BK1372 := bbx hb BK1372; replace HB := bsx hb HB; clear HO_10; clear HO_13; have HO_10 := n0_; have HO_13 := n1_; clear n0_ n1_; (try clear hb); (try clear hb2); (try clear hk); (try clear hi)) | ((with_reducible refine gate_callee (f := 17) rfl ?_); refine goesL_ (some 97) rfl rfl Try.func17 (by kernel_rfl) rfl #[.slice A1 l1.length c1] rfl (by (try simp only [m_1, m_2, m_3]); first | done | rfl | (simp only [m_4, m_5]; rfl)) ?_; (with_reducible refine (laws_toStringS.calls kj38 _ _ l1 t1405 _ ?side1 ?side2 A54.out).mono ?_); (case side1 => repeat (first | exact (Kd.C_below HR1.out HB.out) | (with_reducible refine Kd.C_alloc ?_ _) | (with_reducible refine Kd.C_drewN ?_ _) | (with_reducible refine Kd.C_drew ?_))); (case side2 => exact HC1.out); rintro e w62 ⟨v1406, rfl, ho0, hb⟩; refine ⟨_, rfl, ?_⟩; have n0_ := Aside0.mk (Kd.R_elder' (by (with_reducible repeat (first | apply r_a | apply r_d | apply r_e)); exact HO_10.out) (Kd.R_base ho0) hb); have n1_ := Aside0.mk (Kd.R_elder' (by (with_reducible repeat (first | apply r_a | apply r_d | apply r_e)); exact HO_13.out) (Kd.R_base ho0) hb); have n2_ := Aside0.mk (Kd.R_lower (Kd.R_new' (Kd.R_new' ho0 (Kd.R_lt (by (with_reducible repeat (first | apply r_a | apply r_d | apply r_e)); exact HO_10.out))) (Kd.R_lt (by (with_reducible repeat (first | apply r_a | apply r_d | apply r_e)); exact HO_13.out))) (below_size (bB HB))); replace BK1372 := bbx hb BK1372; have n4_ := bsx hb HB; clear HO_10; clear HO_13; clear HB; have HO_10 := n0_; have HO_13 := n1_; have HO1407 := n2_; have HB := n4_; clear n0_ n1_ n2_ n4_; (try clear hb); (try clear hb2); (try clear hk); (try clear hi); (try clear ho0); obtain ⟨Ao63, co63, eo63⟩ := Kd.R_slice HO1407.out; subst eo63) | ((with_reducible refine gate_callee (f := 48) rfl ?_); refine goesL_ (some 100) rfl rfl Try.func48 (by kernel_rfl) rfl #[.agg #[.int .i64 t1403, .int .i64 t1404], .slice Ao63 t1405.length co63, .string a2, .string a3] rfl (by (try simp only [m_1, m_2, m_3]); first | done | rfl | (simp only [m_4, m_5]; rfl)) ?_; (with_reducible refine (impl_NeededCodes.calls kj38 t1403 t1404 _ _ t1405 a2 a3 t1408 t1411 _ ?side1 ?side2 A55.out).mono ?_); (case side1 => repeat (first | exact (Kd.R_reads' HO1407.out).2.2 | (with_reducible refine Kd.C_alloc ?_ _) | (with_reducible refine Kd.C_drewN ?_ _) | (with_reducible refine Kd.C_drew ?_))); (case side2 => exact (Kd.R_reads' HO1407.out).2.1); rintro e w64 ⟨v1409, rfl, ho0, hb⟩; refine ⟨_, rfl, ?_⟩; have n0_ := Aside0.mk (Kd.R_elder' (by (with_reducible repeat (first | apply r_a | apply r_d | apply r_e)); exact HO_10.out) (Kd.R_base ho0) hb); have n1_ := Aside0.mk (Kd.R_elder' (by (with_reducible repeat (first | apply r_a | apply r_d | apply r_e)); exact HO_13.out) (Kd.R_base ho0) hb); have n2_ := Aside0.mk (Kd.R_elder' (by (with_reducible repeat (first | apply r_a | apply r_d | apply r_e)); exact HO1407.out) (Kd.R_base ho0) hb); have n3_ := Aside0.mk (Kd.R_lower (Kd.R_new' (Kd.R_new' (Kd.R_new' ho0 (Kd.R_lt (by (with_reducible repeat (first | apply r_a | apply r_d | apply r_e)); exact HO_10.out))) (Kd.R_lt (by (with_reducible repeat (first | apply r_a | apply r_d | apply r_e)); exact HO_13.out))) (Kd.R_lt (by (with_reducible repeat (first | apply r_a | apply r_d | apply r_e)); exact HO1407.out))) (below_size (bB HB))); replace BK1372 := bbx hb BK1372; have n5_ := bsx hb HB; clear HO_10; clear HO_13; clear HO1407; clear HB; have HO_10 := n0_; have HO_13 := n1_; have HO1407 := n2_; have HO1410 := n3_; have HB := n5_; clear n0_ n1_ n2_ n3_ n5_; (try clear hb); (try clear hb2); (try clear hk); (try clear hi); (try clear ho0)))
  (try simp only [Act.put, s_1, s_2, s_3])
  go_cut [111] from 1 to 0 (fun v111 wc => ∃ (kq : Nat) (x111_55 : Bool), v111 = .bool x111_55 ∧ Aside0 (laws_FnExactNeededCodes.j2 kq t1401 t1400 x111_55 = some r) ∧ Aside0 (kq ≤ kj38) ∧ Aside0 (Kd.R Kd.string 9 wc w.heap.size (fun _ => True) (.slice Ao57 t1388.length co57) t1401) ∧ Aside0 (wc.heap[gb1372]? = some (.cells #[.int .i64 a0_0, .int .i64 a0_1] 23 (0, 0))) ∧ Aside0 (Below w.heap.size w wc))
  case first => as_aux_lemma =>
    have H := HC56.out
    clear HC56
    replace H := Option.bind_eq_some_iff.mp H
    obtain ⟨t1412, A650, H⟩ := H
    try dsimp only at H
    have A65 := Aside0.mk A650
    clear A650
    by_cases c66 : t1412 = true
    rotate_left
    · replace c66 := Bool.eq_false_iff.mpr c66
      subst c66
      rw [if_neg (show ¬ (false = true) by decide)] at H
      rw [HRT.out] at H
      exact absurd H (by generalize kj38 = q_; cases q_ <;> simp [laws_FnExactNeededCodes.j2])
    subst c66
    rw [if_pos rfl] at H
    have H' := Aside0.mk H
    clear H
    obtain ⟨Ao67, co67, eo67⟩ := Kd.R_slice HO1410.out
    subst eo67
    obtain ⟨Ao68, co68, eo68⟩ := Kd.R_slice HO_10.out
    subst eo68
    go_wp2_with (first | ((with_reducible refine gate_callee (f := 19) rfl ?_); refine goesL_ (some 105) rfl rfl Try.func19 (by kernel_rfl) rfl #[.slice Ao67 t1408.length co67, .slice Ao68 t1379.length co68] rfl (by (try simp only [m_1, m_2, m_3]); first | done | rfl | (simp only [m_4, m_5]; rfl)) ?_; (with_reducible refine (laws_eqStringS.calls kj38 _ _ t1408 _ _ t1379 true _ ?side1 ?side2 ?side3 ?side4 A65.out).mono ?_); (case side1 => repeat (first | exact (Kd.R_reads' HO1410.out).2.2 | (with_reducible refine Kd.C_alloc ?_ _) | (with_reducible refine Kd.C_drewN ?_ _) | (with_reducible refine Kd.C_drew ?_))); (case side2 => exact (Kd.R_reads' HO1410.out).2.1); (case side3 => repeat (first | exact (Kd.R_reads' HO_10.out).2.2 | (with_reducible refine Kd.C_alloc ?_ _) | (with_reducible refine Kd.C_drewN ?_ _) | (with_reducible refine Kd.C_drew ?_))); (case side4 => exact (Kd.R_reads' HO_10.out).2.1); rintro e w' ⟨rfl, ⟨nd, rfl⟩⟩; refine ⟨_, rfl, ?_⟩))
    go_meet
    case rel => exact ⟨_, ((t1411 != t1382)), (by first | rfl | (simp; done) | (simp [*]; done)), H', ⟨by have := HJ17.out; have := HJ38.out; first | omega | exact Nat.le_refl _⟩, ⟨by (with_reducible repeat (first | apply r_a | apply r_d | apply r_e)); exact Kd.R_mono HO_13.out (fun _ hk => trivial)⟩, ⟨bK BK1372⟩, ⟨bB HB⟩⟩
  clear HC56
  try clear c1
  try clear c48
  try clear c51
  try clear c51b0
  try clear c52
  try clear c52b0
  try clear c52b1
  try clear hcz60_0
  try clear hcz60_1
  try clear hfz60_0
  try clear hfz60_1
  obtain ⟨kq, x111_55, rfl, HA, HJ55, HO_13, BK1372, HB⟩ := hcut
  have hl13_55 := (Kd.R_reads' HO_13.out).1
  rw [hl13_55] at HO_13
  (try simp only [hl13_55])
  (try simp only [hl13_55] at BK1372)
  rcases kq with _ | kj55
  · exact absurd HA.out (by simp [laws_FnExactNeededCodes.j2])
  have H := HA.out
  clear HA
  simp only [laws_FnExactNeededCodes.j2] at H
  by_cases c69 : x111_55 = true
  · subst c69
    rw [if_pos rfl] at H
    rw [HRT.out] at H
    exact absurd H (by simp)
  replace c69 := Bool.eq_false_iff.mpr c69
  subst c69
  rw [if_neg (show ¬ (false = true) by decide)] at H
  replace H := Option.bind_eq_some_iff.mp H
  obtain ⟨t1413, A700, H⟩ := H
  try dsimp only at H
  have A70 := Aside0.mk A700
  clear A700
  by_cases c71 : t1413 < 0
  · rw [if_pos c71] at H
    have c71b0 : decide (t1413 < 0) = true := decide_eq_true c71
    clear c71
    rw [HRT.out] at H
    exact absurd H (by simp)
  rw [if_neg c71] at H
  have c71b0 : decide (t1413 < 0) = false := decide_eq_false c71
  clear c71
  by_cases c72 : t1413 = t1400
  rotate_left
  · rw [if_neg c72] at H
    have c72b0 : (t1413 == t1400) = false := beq_eq_false_iff_ne.mpr c72
    have c72b1 : (t1413 != t1400) = true := bne_iff_ne.mpr c72
    rw [HRT.out] at H
    exact absurd H (by simp)
  rw [if_pos c72] at H
  have c72b0 : (t1413 == t1400) = true := beq_iff_eq.mpr c72
  have c72b1 : (t1413 != t1400) = false := bne_eq_false_iff_eq.mpr c72
  clear c72
  obtain rfl := Option.some.inj H
  go_wp2_with (first | ((with_reducible refine gate_callee (f := 38) rfl ?_); refine goesL_ (some 114) rfl rfl Try.func38 (by kernel_rfl) rfl #[.slice Ao57 t1401.length co57, .int .i64 1] rfl (by (try simp only [m_1, m_2, m_3]); first | done | rfl | (simp only [m_4, m_5]; rfl)) ?_; (with_reducible refine (laws_heldStringS.calls kj55 _ _ t1401 1 t1413 _ ?side1 ?side2 A70.out).mono ?_); (case side1 => repeat (first | exact (Kd.R_reads' HO_13.out).2.2 | (with_reducible refine Kd.C_alloc ?_ _) | (with_reducible refine Kd.C_drewN ?_ _) | (with_reducible refine Kd.C_drew ?_))); (case side2 => exact (Kd.R_reads' HO_13.out).2.1); rintro e w73 ⟨rfl, hb⟩; refine ⟨_, rfl, ?_⟩; have n0_ := Aside0.mk (Kd.R_below (by (with_reducible repeat (first | apply r_a | apply r_d | apply r_e)); exact HO_13.out) hb); replace BK1372 := bbx hb BK1372; replace HB := bsx hb HB; clear HO_13; have HO_13 := n0_; clear n0_; (try clear hb); (try clear hb2); (try clear hk); (try clear hi)))
  go_ret
  exact ⟨by first | rfl | (simp [errW_none, errW_some] <;> rfl) | (simp [*, errW_none, errW_some] <;> rfl), bB HB⟩
end Go.Proofs.Ytihhiolflbieaaa.P
