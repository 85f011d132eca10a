-- Texts of this session's own program (wip/dr.py), which runs the kit's printer.
import Derived.Test.YtiacdekbleebjaaPx0
import Derived.Test.YtiacdekbleebjaaPx20
import Derived.Test.YtiacdekbleebjaaPx31
namespace Go.Proofs.Ytiacdekbleebjaa.P
open Go.RowKit Go.Proofs.YtiacdekbleebjaaW.PrintWords Go.Proofs.YtiacdekbleebjaaW.PrintLast Go.Proofs.YtiacdekbleebjaaW.PrintMore
attribute [local go_sem] max2_int min2_int max_two min_two max_three min_three max_four min_four   -- for this text's walks alone
set_option linter.unusedVariables false
set_option linter.unusedSimpArgs false

/-! ### impl_Gears_far: function 41 -/
mutual
def impl_Gears_far.l0 : Nat → List Int → List ByteArray → Int → Int → List (List Int) → Option (List Int)
  | 0, _, _, _, _, _ => none
  | k + 1, x5, x6, x284000, x284001, x284002 => if (x6.length : Int) > 0 then (if 0 < (x6.length : Int) then ((impl_Lock_number.f k x284000 x284001 (rdOf ByteArray.empty x6 0)).bind fun t297 => (if 0 ≤ t297 then (if t297 < (x5.length : Int) then ((impl_turns.f k (x284002.length : Int)).bind fun t299 => (impl_Gears_far.l1 k x5 x6 (rd x5 t297) t299 (t299.length : Int) 0 x284000 x284001 x284002)) else (none)) else (none))) else (none)) else (some x5)
def impl_Gears_far.l1 : Nat → List Int → List ByteArray → Int → List (S48) → Int → Int → Int → Int → List (List Int) → Option (List Int)
  | 0, _, _, _, _, _, _, _, _, _ => none
  | k + 1, x5, x6, x7, x42, x43, x44, x284000, x284001, x284002 => if x44 < x43 then (if 0 ≤ x44 then (if x44 < (x42.length : Int) then (if 0 < (x6.length : Int) then ((impl_Gears_turned.f k x284000 x284001 x284002 (rdOf ByteArray.empty x6 0) ((rd_T48 x42 x44).f0) ((rd_T48 x42 x44).f1)).bind fun t308 => ((impl_Lock_number.f k x284000 x284001 t308).bind fun t309 => (if 0 ≤ t309 then (if t309 < (x5.length : Int) then (if (rd x5 t309) < 0 then (if x6.length < 8796093022208 then (impl_Gears_far.l1 k (x5.set (t309 : Int).toNat (wrap64 (x7 + 1))) (x6 ++ [t308]) x7 x42 x43 (wrap64 (x44 + 1)) x284000 x284001 x284002) else (none)) else (impl_Gears_far.l1 k x5 x6 x7 x42 x43 (wrap64 (x44 + 1)) x284000 x284001 x284002)) else (none)) else (none)))) else (none)) else (none)) else (none)) else (if 1 ≤ (x6.length : Int) then (impl_Gears_far.l0 k x5 (x6.drop (1 : Int).toNat) x284000 x284001 x284002) else (none))
end
def impl_Gears_far.f (k : Nat) (a0_0 : Int) (a0_1 : Int) (l0_2 : List (List Int)) (a1 : ByteArray) : Option (List Int) := (impl_Lock_count.f k a0_0 a0_1).bind fun t287 => ((slices_Repeat_int_int.f (([(-1)] : List Int)) t287).bind fun t288 => ((impl_Lock_number.f k a0_0 a0_1 a1).bind fun t291 => (if 0 ≤ t291 then (if t291 < (t288.length : Int) then (impl_Gears_far.l0 k (t288.set (t291 : Int).toNat 0) (([a1] : List ByteArray)) a0_0 a0_1 l0_2) else (none)) else (none))))
theorem impl_Gears_far.mono_l : ∀ k, (∀ y0 y1 y2 y3 y4, LeO (impl_Gears_far.l0 k y0 y1 y2 y3 y4) (impl_Gears_far.l0 (k + 1) y0 y1 y2 y3 y4)) ∧ (∀ y0 y1 y2 y3 y4 y5 y6 y7 y8, LeO (impl_Gears_far.l1 k y0 y1 y2 y3 y4 y5 y6 y7 y8) (impl_Gears_far.l1 (k + 1) y0 y1 y2 y3 y4 y5 y6 y7 y8))
  | 0 => ⟨fun _ _ _ _ _ r h => by simp [impl_Gears_far.l0] at h, fun _ _ _ _ _ _ _ _ _ r h => by simp [impl_Gears_far.l1] at h⟩
  | k + 1 => by
    obtain ⟨ih0, ih1⟩ := impl_Gears_far.mono_l k
    refine ⟨?_, ?_⟩
    rotate_left
    · intro y0 y1 y2 y3 y4 y5 y6 y7 y8
      unfold impl_Gears_far.l1
      repeat' first
      | (with_reducible exact ih0 _ _ _ _ _)
      | (with_reducible exact ih1 _ _ _ _ _ _ _ _ _)
      | (with_reducible exact impl_Gears_turned.mono _ _ _ _ _ _ _)
      | (with_reducible exact impl_Lock_count.mono _ _ _)
      | (with_reducible exact impl_Lock_number.mono _ _ _ _)
      | (with_reducible exact impl_turns.mono _ _)
      | (with_reducible exact LeO.refl _)
      | (with_reducible exact LeO.none _)
      | (with_reducible refine LeO.ite ?_ ?_)
      | (with_reducible refine LeO.bind ?_ (fun _ => ?_))
      | exact ih0 _ _ _ _ _
      | exact ih1 _ _ _ _ _ _ _ _ _
      | exact impl_Gears_turned.mono _ _ _ _ _ _ _
      | exact impl_Lock_count.mono _ _ _
      | exact impl_Lock_number.mono _ _ _ _
      | exact impl_turns.mono _ _
      | exact LeO.none _
      | refine LeO.ite ?_ ?_
      | refine LeO.bind ?_ (fun _ => ?_)
    intro y0 y1 y2 y3 y4
    unfold impl_Gears_far.l0
    repeat' first
    | (with_reducible exact ih0 _ _ _ _ _)
    | (with_reducible exact ih1 _ _ _ _ _ _ _ _ _)
    | (with_reducible exact impl_Gears_turned.mono _ _ _ _ _ _ _)
    | (with_reducible exact impl_Lock_count.mono _ _ _)
    | (with_reducible exact impl_Lock_number.mono _ _ _ _)
    | (with_reducible exact impl_turns.mono _ _)
    | (with_reducible exact LeO.refl _)
    | (with_reducible exact LeO.none _)
    | (with_reducible refine LeO.ite ?_ ?_)
    | (with_reducible refine LeO.bind ?_ (fun _ => ?_))
    | exact ih0 _ _ _ _ _
    | exact ih1 _ _ _ _ _ _ _ _ _
    | exact impl_Gears_turned.mono _ _ _ _ _ _ _
    | exact impl_Lock_count.mono _ _ _
    | exact impl_Lock_number.mono _ _ _ _
    | exact impl_turns.mono _ _
    | exact LeO.none _
    | refine LeO.ite ?_ ?_
    | refine LeO.bind ?_ (fun _ => ?_)
theorem impl_Gears_far.mono : ∀ a0 a1 a2 a3 k, LeO (impl_Gears_far.f k a0 a1 a2 a3) (impl_Gears_far.f (k + 1) a0 a1 a2 a3) := by
  intro a0 a1 a2 a3 k
  obtain ⟨ih0, ih1⟩ := impl_Gears_far.mono_l k
  unfold impl_Gears_far.f
  repeat' first
      | (with_reducible exact ih0 _ _ _ _ _)
      | (with_reducible exact ih1 _ _ _ _ _ _ _ _ _)
      | (with_reducible exact impl_Gears_turned.mono _ _ _ _ _ _ _)
      | (with_reducible exact impl_Lock_count.mono _ _ _)
      | (with_reducible exact impl_Lock_number.mono _ _ _ _)
      | (with_reducible exact impl_turns.mono _ _)
      | (with_reducible exact LeO.refl _)
      | (with_reducible exact LeO.none _)
      | (with_reducible refine LeO.ite ?_ ?_)
      | (with_reducible refine LeO.bind ?_ (fun _ => ?_))
      | exact ih0 _ _ _ _ _
      | exact ih1 _ _ _ _ _ _ _ _ _
      | exact impl_Gears_turned.mono _ _ _ _ _ _ _
      | exact impl_Lock_count.mono _ _ _
      | exact impl_Lock_number.mono _ _ _ _
      | exact impl_turns.mono _ _
      | exact LeO.none _
      | refine LeO.ite ?_ ?_
      | refine LeO.bind ?_ (fun _ => ?_)
def impl_Gears_far.T6 : Bool × List (List Nat × List Nat) := (true, [([], []), ([], []), ([1], [1]), ([], []), ([3], [3]), ([4], [4]), ([2, 5], [2, 5]), ([0, 6], [0, 6]), ([7], [7]), ([8, 6, 0, 1, 2, 3, 4, 5, 6, 7, 8], [8])])
def impl_Gears_far.B6 : List Nat := [0, 0, 2, 0, 8, 24, 62, 127, 255, 511]
theorem impl_Gears_far.tab6 : rtab .any (opsOf Try.f41 6) = impl_Gears_far.T6 := by kernel_rfl
theorem impl_Gears_far.bits6 : waitsOk impl_Gears_far.T6.2 impl_Gears_far.B6 = true := by kernel_rfl
def impl_Gears_far.T10 : Bool × List (List Nat × List Nat) := (true, [([], []), ([], []), ([1], [1]), ([2], [2]), ([], []), ([4], [4]), ([], []), ([6], [6]), ([0, 3, 5, 7], [0, 3, 5, 7]), ([8, 8, 0, 1, 2, 3, 4, 5, 6, 7, 8], [8])])
def impl_Gears_far.B10 : List Nat := [0, 0, 2, 6, 0, 16, 0, 64, 255, 511]
theorem impl_Gears_far.tab10 : rtab .any (opsOf Try.f41 10) = impl_Gears_far.T10 := by kernel_rfl
theorem impl_Gears_far.bits10 : waitsOk impl_Gears_far.T10.2 impl_Gears_far.B10 = true := by kernel_rfl
set_option maxHeartbeats 8000000 in
set_option maxRecDepth 100000 in
theorem impl_Gears_far.calls (k : Nat) (a0_0 : Int) (a0_1 : Int) (A0_2 : Option Addr) (c0_2 : Nat) (l0_2 : List (List Int)) (a1 : ByteArray) (r : List Int) (w : World) (hr0_2 : Kd.C (Kd.slice 3 (Kd.int .i64)) w A0_2 l0_2.length l0_2) (hc0_2 : l0_2.length ≤ c0_2) (h : impl_Gears_far.f k a0_0 a0_1 l0_2 a1 = some r) :
    Calls Try.prog 41 #[.agg #[.int .i64 a0_0, .int .i64 a0_1, .slice A0_2 l0_2.length c0_2], .string a1] w fun e w' => ∃ v0_ : Value, e = .returned (v0_) ∧ Kd.R (Kd.int .i64) 3 w' w.heap.size (fun _ => True) v0_ r ∧ Below w.heap.size w w' := by
  have hu33 := Try.underlying33
  have hu31 := Try.underlying31
  have hu48 := Try.underlying48
  have HR0_2 := Aside0.mk hr0_2
  have HC0_2 := Aside0.mk hc0_2
  clear hr0_2 hc0_2
  have HB := Aside0.mk (Below.refl w.heap.size w)
  have H : ((impl_Lock_count.f k a0_0 a0_1).bind fun t287 => ((slices_Repeat_int_int.f (([(-1)] : List Int)) t287).bind fun t288 => ((impl_Lock_number.f k a0_0 a0_1 a1).bind fun t291 => (if 0 ≤ t291 then (if t291 < (t288.length : Int) then (impl_Gears_far.l0 k (t288.set (t291 : Int).toNat 0) (([a1] : List ByteArray)) a0_0 a0_1 l0_2) else (none)) else (none))))) = some r := h
  clear h
  obtain ⟨y284, hy284⟩ : ∃ y_ : List Int, y_ = (([(-1)] : List Int)) := ⟨_, rfl⟩
  replace H : ((impl_Lock_count.f k a0_0 a0_1).bind fun t287 => ((slices_Repeat_int_int.f y284 t287).bind fun t288 => ((impl_Lock_number.f k a0_0 a0_1 a1).bind fun t291 => (if 0 ≤ t291 then (if t291 < (t288.length : Int) then (impl_Gears_far.l0 k (t288.set (t291 : Int).toNat 0) (([a1] : List ByteArray)) a0_0 a0_1 l0_2) else (none)) else (none))))) = some r := by first | (rw [hy284]; with_reducible exact H) | (have H2_ := (Option.bind_some _ _).symm.trans H; rw [hy284]; with_reducible exact H2_) | (have H2_ := (Option.bind_some _ _).symm.trans H; with_reducible exact H2_) | with_reducible exact H | (rw [hy284]; exact H) | exact H
  have Ny284 := Aside0.mk hy284
  clear hy284
  replace H := Option.bind_eq_some_iff.mp H
  obtain ⟨t287, A30, H⟩ := H
  try dsimp only at H
  have A3 := Aside0.mk A30
  clear A30
  replace H := Option.bind_eq_some_iff.mp H
  obtain ⟨t288, A40, H⟩ := H
  try dsimp only at H
  have A4 := Aside0.mk A40
  clear A40
  replace H := Option.bind_eq_some_iff.mp H
  obtain ⟨t291, A50, H⟩ := H
  try dsimp only at H
  have A5 := Aside0.mk A50
  clear A50
  by_cases c6 : 0 ≤ t291
  rotate_left
  · rw [if_neg c6] at H
    exact absurd H (by simp)

  rw [if_pos c6] at H
  have c6b0 : decide (0 ≤ t291) = true := decide_eq_true c6
  clear c6
  by_cases c7 : t291 < (t288.length : Int)
  rotate_left
  · rw [if_neg c7] at H
    exact absurd H (by simp)
  rw [if_pos c7] at H
  have c7b0 : decide (t291 < (t288.length : Int)) = true := decide_eq_true c7
  clear c7
  obtain ⟨y292, hy292⟩ : ∃ y_ : List Int, y_ = (t288.set (t291 : Int).toNat 0) := ⟨_, rfl⟩
  replace H : (impl_Gears_far.l0 k y292 (([a1] : List ByteArray)) a0_0 a0_1 l0_2) = some r := by first | (rw [hy292]; with_reducible exact H) | (have H2_ := (Option.bind_some _ _).symm.trans H; rw [hy292]; with_reducible exact H2_) | (have H2_ := (Option.bind_some _ _).symm.trans H; with_reducible exact H2_) | with_reducible exact H | (rw [hy292]; exact H) | exact H
  have Ny292 := Aside0.mk hy292
  clear hy292
  obtain ⟨y293, hy293⟩ : ∃ y_ : List ByteArray, y_ = (([a1] : List ByteArray)) := ⟨_, rfl⟩
  replace H : (impl_Gears_far.l0 k y292 y293 a0_0 a0_1 l0_2) = some r := by first | (rw [hy293]; with_reducible exact H) | (have H2_ := (Option.bind_some _ _).symm.trans H; rw [hy293]; with_reducible exact H2_) | (have H2_ := (Option.bind_some _ _).symm.trans H; with_reducible exact H2_) | with_reducible exact H | (rw [hy293]; exact H) | exact H
  have Ny293 := Aside0.mk hy293
  clear hy293
  have H' := Aside0.mk H
  clear H
  go_enter Try.func41, Try.ntmps41
  go_wp2_with (first | ((with_reducible refine gate_dst (N := 2) rfl ?_); refine box_event ?hg (N := 2) ?hd (cs := #[.int .i64 a0_0, .int .i64 a0_1, .slice A0_2 l0_2.length c0_2]) (t := 33) ?hr ?_; (case hd => rfl); (case hg => rfl); (case hr => first | (go_simp; done) | (go_simp; rfl)); intro gb283 hg w9 hbox hb; have n0_ := bsx hb HB; have n1_ := Aside0.mk (hbox); have n2_ := gwx hg HB; have n3_ := n2_; clear HB; have HB := n0_; have BK283 := n1_; have GW283 := n2_; have GE283 := n3_; clear n0_ n1_ n2_ n3_; clear hb hbox hg) | ((with_reducible refine gate_dst (N := 12) rfl ?_); refine Kd.R_lit (Kd.int .i64) _ 3 ?hg (N := 12) ?hd (xs := ([(-1)] : List Int)) (inner := [.int .i64 (-1)]) (ok := fun _ => True) (okp := fun _ => True) ?hr ?hp (fun _ hk => hk) trivial (Below.refl _ _) (Nat.le_refl _) (by simp) ?_; (case hd => rfl); (case hg => rfl); (case hr => first | (go_simp; done) | (go_simp; rfl)); (case hp => exact (Reps.one (show Kd.M (Kd.int .i64) _ _ _ (-1) [.int .i64 (-1)] from rfl) (Reps.none _ _))); intro v285 w10 ho11 hb hg_ hnew_; clear hg_ hnew_; (first | rw [← Ny284.out] at ho11 | (simp only [Int.reduceToNat] at ho11; rw [← Ny284.out] at ho11)); have n0_ := Aside0.mk (Kd.R_lower ho11 (below_size (bB HB))); replace BK283 := bbx hb BK283; have n2_ := bsx hb HB; clear HB; have HO286 := n0_; have HB := n2_; clear n0_ n2_; clear hb ho11; have hcz12_0 : w10.cell? ⟨gb283, 0, none⟩ = some (.int .i64 a0_0) := (blk_cell BK283.out 0).trans rfl; have hcz12_1 : w10.cell? ⟨gb283, 1, none⟩ = some (.int .i64 a0_1) := (blk_cell BK283.out 1).trans rfl; have hcz12_2 : w10.cell? ⟨gb283, 2, none⟩ = some (.slice A0_2 l0_2.length c0_2) := (blk_cell BK283.out 2).trans rfl; have hfz12_0 := blk_frozen BK283.out 0; have hfz12_1 := blk_frozen BK283.out 1; have hfz12_2 := blk_frozen BK283.out 2) | ((with_reducible refine gate_callee (f := 79) rfl ?_); refine goesL_ (some 15) rfl rfl Try.func79 (by kernel_rfl) rfl #[.agg #[.int .i64 a0_0, .int .i64 a0_1]] rfl (by (try simp only [m_1, m_2, m_3]); first | done | rfl | (simp only [m_4, m_5]; rfl)) ?_; (with_reducible refine (impl_Lock_count.calls k a0_0 a0_1 t287 _ A3.out).mono ?_); rintro e w13 ⟨rfl, hb⟩; refine ⟨_, rfl, ?_⟩; have n0_ := Aside0.mk (Kd.R_below (by (with_reducible repeat (first | apply r_a | apply r_d | apply r_e)); exact HO286.out) hb); replace BK283 := bbx hb BK283; replace HB := bsx hb HB; clear HO286; have HO286 := n0_; clear n0_; (try clear hb); (try clear hb2); (try clear hk); (try clear hi); obtain ⟨Ao14, co14, eo14⟩ := Kd.R_slice HO286.out; subst eo14) | ((with_reducible refine gate_callee (f := 78) rfl ?_); refine goesL_ (some 16) rfl rfl Try.func78 (by kernel_rfl) rfl #[.slice Ao14 y284.length co14, .int .i64 t287] rfl (by (try simp only [m_1, m_2, m_3]); first | done | rfl | (simp only [m_4, m_5]; rfl)) ?_; (with_reducible refine (slices_Repeat_int_int.calls _ _ y284 t287 t288 _ ?side1 ?side2 A4.out).mono ?_); (case side1 => repeat (first | exact (Kd.R_reads' HO286.out).2.2 | (with_reducible refine Kd.C_alloc ?_ _) | (with_reducible refine Kd.C_drewN ?_ _) | (with_reducible refine Kd.C_drew ?_))); (case side2 => exact (Kd.R_reads' HO286.out).2.1); rintro e w15 ⟨v289, rfl, ho0, hb⟩; refine ⟨_, rfl, ?_⟩; have n0_ := Aside0.mk (Kd.R_elder' (by (with_reducible repeat (first | apply r_a | apply r_d | apply r_e)); exact HO286.out) (Kd.R_base ho0) hb); have n1_ := Aside0.mk (Kd.R_lower (Kd.R_new' ho0 (Kd.R_lt (by (with_reducible repeat (first | apply r_a | apply r_d | apply r_e)); exact HO286.out))) (below_size (bB HB))); replace BK283 := bbx hb BK283; have n3_ := bsx hb HB; clear HO286; clear HB; have HO286 := n0_; have HO290 := n1_; have HB := n3_; clear n0_ n1_ n3_; (try clear hb); (try clear hb2); (try clear hk); (try clear hi); (try clear ho0); have hcz16_0 : w15.cell? ⟨gb283, 0, none⟩ = some (.int .i64 a0_0) := (blk_cell BK283.out 0).trans rfl; have hcz16_1 : w15.cell? ⟨gb283, 1, none⟩ = some (.int .i64 a0_1) := (blk_cell BK283.out 1).trans rfl; have hcz16_2 : w15.cell? ⟨gb283, 2, none⟩ = some (.slice A0_2 l0_2.length c0_2) := (blk_cell BK283.out 2).trans rfl; have hfz16_0 := blk_frozen BK283.out 0; have hfz16_1 := blk_frozen BK283.out 1; have hfz16_2 := blk_frozen BK283.out 2) | ((with_reducible refine gate_callee (f := 42) rfl ?_); refine goesL_ (some 21) rfl rfl Try.func42 (by kernel_rfl) rfl #[.agg #[.int .i64 a0_0, .int .i64 a0_1], .string a1] rfl (by (try simp only [m_1, m_2, m_3]); first | done | rfl | (simp only [m_4, m_5]; rfl)) ?_; (with_reducible refine (impl_Lock_number.calls k a0_0 a0_1 a1 t291 _ A5.out).mono ?_); rintro e w17 ⟨rfl, hb⟩; refine ⟨_, rfl, ?_⟩; have n0_ := Aside0.mk (Kd.R_below (by (with_reducible repeat (first | apply r_a | apply r_d | apply r_e)); exact HO286.out) hb); have n1_ := Aside0.mk (Kd.R_below (by (with_reducible repeat (first | apply r_a | apply r_d | apply r_e)); exact HO290.out) hb); replace BK283 := bbx hb BK283; replace HB := bsx hb HB; clear HO286; clear HO290; have HO286 := n0_; have HO290 := n1_; clear n0_ n1_; (try clear hb); (try clear hb2); (try clear hk); (try clear hi); have p8 : 0 ≤ (t291 : Int) := of_decide_eq_true (by first | (with_reducible assumption) | assumption); have q8 : (t291 : Int) < ((t288.length : Int) : Int) := of_decide_eq_true (by first | (with_reducible assumption) | assumption); obtain ⟨go8, co8, eo8, gb8, gl8, cl8, HG8⟩ := Kd.R_form HO290.out (by omega); (first | cases eo8 | (injection eo8 with ea_ en_ ec_; (first | subst ea_ | (injection ea_ with ea_; subst ea_)); subst ec_; clear en_)); have GB8 := Aside0.mk gb8; have GG8 := Aside0.mk HG8; clear gb8 gl8 HG8; obtain ⟨hx8_0, hf8_0⟩ := Kd.R_celln 0 HO290.out (t291 : Int) p8 q8; replace p8 := eq_true p8; replace q8 := eq_true q8; have n_ := Aside0.mk (Kd.R_mono (ok' := (fun k_ => some k_ ≠ (.slice Ao14 y284.length co14 : Value).ownBlock)) HO290.out (fun k_ hk => hk.2)); clear HO290; have HO290 := n_; clear n_; obtain ⟨hy18_, hz18_⟩ := Kd.R_celln 0 HO290.out (t291 : Int) (of_decide_eq_true (by first | (with_reducible assumption) | assumption)) (of_decide_eq_true (by first | (with_reducible assumption) | assumption)); have HP18 := Kd.R_putg HO290.out (t291 : Int) 0) | ((with_reducible refine gate_store (t := 3) (p := 22) rfl ?_); refine store_event (t := 3) (p := 22) (v := ?vo_w19) (w1 := (w17.setCell ⟨go8, (t291 : Int).toNat, none⟩ (.int .i64 0))) ?hg ?ho ?hn ?hr ?_; (case ho => rfl); (case hg => rfl); (case hn => rfl); (case hr => first | (go_simp; done) | (go_simp; rfl)); intro w19 hw; have hg : w17.grownBy w19 (some go8) := (by rw [hw]; exact HP18.2); have hp_ : Kd.R (Kd.int .i64) 3 w19 w.heap.size (fun k_ => some k_ ≠ (.slice Ao14 y284.length co14 : Value).ownBlock) (.slice (some ⟨go8, 0, none⟩) t288.length co8) y292 := (by rw [hw, Ny292.out]; exact HP18.1); clear HP18; have n0_ := Aside0.mk (blk_grown (g := gb283) (o := .cells #[.int .i64 a0_0, .int .i64 a0_1, .slice A0_2 l0_2.length c0_2] 33 (0, 0)) (bK BK283) hg (Kd.R_ne HO290.out BK283.out (by decide))); have n1_ := Aside0.mk (Kd.R_after (v := (.slice (some ⟨go8, 0, none⟩) t288.length co8)) (v1 := (.slice (some ⟨go8, 0, none⟩) t288.length co8)) (ok := (fun _ => True)) (by (with_reducible repeat (first | apply r_a | apply r_d | apply r_e)); exact HO286.out) hg (.inl rfl)); have n2_ := Aside0.mk (hp_); have n3_ := Aside0.mk ((by rw [hw]; exact b_s (HB.out) GB8.out : Below w.heap.size w w19)); clear BK283; clear HO286; clear HO290; clear HB; have BK283 := n0_; have HO286 := n1_; have HO290 := n2_; have HB := n3_; clear n0_ n1_ n2_ n3_; clear hg hw hp_) | ((with_reducible refine gate_dst (N := 24) rfl ?_); refine Kd.R_lit Kd.string _ 9 ?hg (N := 24) ?hd (xs := ([a1] : List ByteArray)) (inner := [.string a1]) (ok := fun _ => True) (okp := fun _ => True) ?hr ?hp (fun _ hk => hk) trivial (Below.refl _ _) (Nat.le_refl _) (by simp) ?_; (case hd => rfl); (case hg => rfl); (case hr => first | (go_simp; done) | (go_simp; rfl)); (case hp => exact (Reps.one (show Kd.M Kd.string _ _ _ a1 [.string a1] from rfl) (Reps.none _ _))); intro v294 w20 ho21 hb hg_ hnew_; clear hg_ hnew_; (first | rw [← Ny293.out] at ho21 | (simp only [Int.reduceToNat] at ho21; rw [← Ny293.out] at ho21)); have n0_ := Aside0.mk (Kd.R_below (by (with_reducible repeat (first | apply r_a | apply r_d | apply r_e)); exact HO286.out) hb); have n1_ := Aside0.mk (Kd.R_below (by (with_reducible repeat (first | apply r_a | apply r_d | apply r_e)); exact HO290.out) hb); have n2_ := Aside0.mk (Kd.R_lower ho21 (below_size (bB HB))); replace BK283 := bbx hb BK283; have n4_ := bsx hb HB; clear HO286; clear HO290; clear HB; have HO286 := n0_; have HO290 := n1_; have HO295 := n2_; have HB := n4_; clear n0_ n1_ n2_ n4_; clear hb ho21))
  go_loopg [6] k (fun kq v6 w' => ∃ (x5_1 : List Int) (x6_1 : List ByteArray), Aside0 (impl_Gears_far.l0 kq x5_1 x6_1 a0_0 a0_1 l0_2 = some r) ∧ Aside0 (kq ≤ k) ∧ Aside0 (Kd.R (Kd.int .i64) 3 w' w.heap.size (fun _ => True) (.slice (some ⟨go8, 0, none⟩) t288.length co8) x5_1) ∧ Aside0 (Kd.Q Kd.string 9 w' w.heap.size (fun _ => True) v6 x6_1) ∧ Aside0 (w'.heap[gb283]? = some (.cells #[.int .i64 a0_0, .int .i64 a0_1, (.slice A0_2 l0_2.length c0_2)] 33 (0, 0))) ∧ Aside0 (Below w.heap.size w w'))
  case atStart => exact ⟨(y292), (y293), H', ⟨Nat.le_refl _⟩, ⟨by (with_reducible repeat (first | apply r_a | apply r_d | apply r_e)); exact Kd.R_mono HO290.out (fun _ hk => trivial)⟩, ⟨Kd.Q_of_R (by (with_reducible repeat (first | apply r_a | apply r_d | apply r_e)); exact HO295.out)⟩, ⟨bK BK283⟩, ⟨bB HB⟩⟩
  clear H'
  try clear c6
  try clear c6b0
  try clear c7
  try clear c7b0
  try clear p8
  try clear q8
  try clear hcz12_0
  try clear hcz12_1
  try clear hcz12_2
  try clear hcz16_0
  try clear hcz16_1
  try clear hcz16_2
  try clear hfz12_0
  try clear hfz12_1
  try clear hfz12_2
  try clear hfz16_0
  try clear hfz16_1
  try clear hfz16_2
  try clear hx8_0
  obtain ⟨x5_1, x6_1, HA, HK1, HO_5, HO_6, BK283, HB⟩ := hrel
  have hl5_1 := (Kd.R_reads' HO_5.out).1
  rw [hl5_1] at HO_5
  (try simp only [hl5_1])
  (try simp only [hl5_1] at BK283)
  (try simp only [hl5_1] at HO_6)
  rcases gk with _ | k1
  · exact absurd HA.out (by simp [impl_Gears_far.l0])
  have H := HA.out
  clear HA
  simp only [impl_Gears_far.l0] at H
  by_cases c22 : (x6_1.length : Int) > 0
  rotate_left
  · rw [if_neg c22] at H
    have c22b0 : decide (0 < (x6_1.length : Int)) = false := decide_eq_false c22
    have c22b1 : decide (0 < x6_1.length) = false := decide_eq_false (by omega)
    clear c22
    obtain rfl := Option.some.inj H
    obtain ⟨Ao69, co69, eo69, _⟩ := Kd.Q_slice HO_6.out
    subst eo69
    go_wp2
    go_ret
    exact ⟨_, by first | rfl | (simp [errW_none, errW_some] <;> rfl) | (simp [*, errW_none, errW_some] <;> rfl), by (with_reducible repeat (first | apply r_a | apply r_d | apply r_e)); exact HO_5.out, bB HB⟩
  rw [if_pos c22] at H
  have c22b0 : decide (0 < (x6_1.length : Int)) = true := decide_eq_true c22
  have c22b1 : decide (0 < x6_1.length) = true := decide_eq_true (by omega)
  clear c22
  by_cases c23 : 0 < (x6_1.length : Int)
  rotate_left
  · rw [if_neg c23] at H
    exact absurd H (by simp)
  rw [if_pos c23] at H
  have c23b0 : decide (0 < (x6_1.length : Int)) = true := decide_eq_true c23
  have c23b1 : decide (0 < x6_1.length) = true := decide_eq_true (by omega)
  clear c23
  replace H := Option.bind_eq_some_iff.mp H
  obtain ⟨t297, A240, H⟩ := H
  try dsimp only at H
  have A24 := Aside0.mk A240
  clear A240
  by_cases c25 : 0 ≤ t297
  rotate_left
  · rw [if_neg c25] at H
    exact absurd H (by simp)
  rw [if_pos c25] at H
  have c25b0 : decide (0 ≤ t297) = true := decide_eq_true c25
  clear c25
  by_cases c26 : t297 < (x5_1.length : Int)
  rotate_left
  · rw [if_neg c26] at H
    exact absurd H (by simp)
  rw [if_pos c26] at H
  have c26b0 : decide (t297 < (x5_1.length : Int)) = true := decide_eq_true c26
  clear c26
  replace H := Option.bind_eq_some_iff.mp H
  obtain ⟨t299, A270, H⟩ := H
  try dsimp only at H
  have A27 := Aside0.mk A270
  clear A270
  have H' := Aside0.mk H
  clear H
  obtain ⟨Ao28, co28, eo28, _⟩ := Kd.Q_slice HO_6.out
  subst eo28
  try go_wp2
  have n0_ := Aside0.mk (r_e HO_5.out)
  have n1_ := Aside0.mk (Kd.Q_drew HO_6.out)
  have n2_ := Aside0.mk (g_e BK283.out)
  have n3_ := Aside0.mk (b_e HB.out)
  clear HO_5
  clear HO_6
  clear BK283
  clear HB
  have HO_5 := n0_
  have HO_6 := n1_
  have BK283 := n2_
  have HB := n3_
  clear n0_ n1_ n2_ n3_
  have p296 : 0 ≤ (0 : Int) := (by omega)
  have q296 : 0 < (x6_1.length : Int) := of_decide_eq_true (by first | (with_reducible assumption) | assumption)
  obtain ⟨ad296, e296, hx296_0⟩ := Kd.at_string (Kd.Q_reads' HO_6.out).2.2 0 p296 q296
  cases e296
  have qi296 : (0 < x6_1.length) = True := eq_true (by omega)
  (try rw [show ((0 : Int)).toNat = 0 from rfl] at hx296_0)
  (try rw [Addr.add_zero'] at hx296_0)
  replace p296 := eq_true p296
  replace q296 := eq_true q296
  have p298 : 0 ≤ (t297 : Int) := of_decide_eq_true (by first | (with_reducible assumption) | assumption)
  have q298 : t297 < (x5_1.length : Int) := of_decide_eq_true (by first | (with_reducible assumption) | assumption)
  obtain ⟨ad298, e298, hx298_0⟩ := Kd.at_int (Kd.R_reads' HO_5.out).2.2 t297 p298 q298
  obtain rfl : (⟨go8, 0, none⟩ : Addr) = ad298 := (by injection e298)
  (first | simp only [add_plain] at hx298_0 | simp only [add_at] at hx298_0 | simp only [Addr.add, Nat.zero_add] at hx298_0 | skip)
  replace p298 := eq_true p298
  replace q298 := eq_true q298
  refine start_ (n := 10) (S := fun w' => w'.cell? ⟨gb283, 0, none⟩ = some (.int .i64 a0_0) ∧ w'.cell? ⟨gb283, 1, none⟩ = some (.int .i64 a0_1) ∧ w'.cell? ⟨gb283, 2, none⟩ = some (.slice A0_2 l0_2.length c0_2) ∧ w'.cell? ad296 = some (.string (rdOf ByteArray.empty x6_1 0)) ∧ w'.cell? ⟨go8, (t297).toNat, none⟩ = some (.int .i64 (rd x5_1 t297))) (ds := []) (bs_ 10 0) (by kernel_rfl) rfl rfl ⟨(blk_cell BK283.out 0).trans rfl, (blk_cell BK283.out 1).trans rfl, (blk_cell BK283.out 2).trans rfl, hx296_0, hx298_0⟩ (fun hHeld => ?_); refine with_tabW impl_Gears_far.tab6 impl_Gears_far.bits6 (fun HT_ HW_ => ?_)
  generalize wr.drew = w29 at HO_5 HO_6 BK283 HB hx296_0 hx298_0 hHeld ⊢
  refine pua 0 30 (bs_ 10 1) HT_ ?_
  refine pua 1 31 (bs_ 10 3) HT_ ?_
  refine pua 3 33 (bs_ 10 11) HT_ ?_
  refine pua 4 34 (bs_ 10 27) HT_ ?_
  refine tk_ 2 32 (bs_ 10 31) rfl rfl HT_ HW_ (by kernel_rfl) (fun _ _ _ h => h) (by rfl) hHeld (by rintro w' ⟨s0, s1, s2, s3, s4⟩; go_simp; with_reducible rfl) (by simp only [Act.put, s_1, s_2, s_3, i64_w, i32_w]; rfl) ?_
  refine tk_ 5 35 (bs_ 10 63) rfl rfl HT_ HW_ (by kernel_rfl) (fun _ _ _ h => h) (by rfl) hHeld (by rintro w' ⟨s0, s1, s2, s3, s4⟩; go_simp; with_reducible rfl) (by simp only [Act.put, s_1, s_2, s_3, i64_w, i32_w]; rfl) ?_
  refine one_ (i := 6) (N := some 36) (bs_ 10 127) rfl rfl (one_of HT_.out (by kernel_rfl)) (by decide) (fun K hK => ?_)
  refine goes_ Try.func42 (by kernel_rfl) rfl #[.agg #[.int .i64 a0_0, .int .i64 a0_1], .string (rdOf ByteArray.empty x6_1 0)] (by rfl) rfl rfl (by (try simp only [m_1, m_2, m_3]); first | done | rfl | (simp only [m_4, m_5]; rfl)) ?_
  with_reducible refine (impl_Lock_number.calls k1 a0_0 a0_1 (rdOf ByteArray.empty x6_1 0) t297 _ A24.out).mono ?_
  rintro e w30 ⟨rfl, hb⟩
  have HS3_ := (hb.cell (World.block_lt_of_cell? _ _ (hHeld.2.2.2.1))).trans (hHeld.2.2.2.1)
  have HS4_ := (hb.cell (World.block_lt_of_cell? _ _ (hHeld.2.2.2.2))).trans (hHeld.2.2.2.2)
  refine ⟨_, rfl, ?_⟩
  have n0_ := Aside0.mk (Kd.R_below (by (with_reducible repeat (first | apply r_a | apply r_d | apply r_e)); exact HO_5.out) hb)
  have n1_ := Aside0.mk (Kd.Q_below (by (with_reducible repeat (first | apply Kd.Q_alloc | apply Kd.Q_drewN | apply Kd.Q_drew)); exact HO_6.out) hb)
  have n2_ := bbx hb BK283
  have n3_ := bsx hb HB
  clear HO_5
  clear HO_6
  clear BK283
  clear HB
  have HO_5 := n0_
  have HO_6 := n1_
  have BK283 := n2_
  have HB := n3_
  clear n0_ n1_ n2_ n3_
  (try clear hb)
  (try clear hb2)
  (try clear hk)
  (try clear hi)
  refine hK.out _ _ ⟨(blk_cell BK283.out 0).trans rfl, (blk_cell BK283.out 1).trans rfl, (blk_cell BK283.out 2).trans rfl, HS3_, HS4_⟩ (fun hHeld => ?_)
  clear hK K
  refine norm_ (a' := ?_) ?_ ?_
  rotate_left
  · show Act.put _ (some 36) _ = _
    simp only [Act.put, s_1, s_2, s_3, i64_w, i32_w]
    rfl
  refine pua 7 37 (bs_ 10 255) HT_ ?_
  refine tk_ 8 38 (bs_ 10 511) rfl rfl HT_ HW_ (by kernel_rfl) (fun _ _ _ h => h) (by rfl) hHeld (by rintro w' ⟨s0, s1, s2, s3, s4⟩; go_simp; with_reducible rfl) (by simp only [Act.put, s_1, s_2, s_3, i64_w, i32_w]; rfl) ?_
  refine pua 9 7 (bs_ 10 1023) HT_ ?_
  refine done_ (done_of HT_.out (by kernel_rfl)) ?_
  have hcz31_0 : w30.cell? ⟨gb283, 0, none⟩ = some (.int .i64 a0_0) := (blk_cell BK283.out 0).trans rfl
  have hcz31_1 : w30.cell? ⟨gb283, 1, none⟩ = some (.int .i64 a0_1) := (blk_cell BK283.out 1).trans rfl
  have hcz31_2 : w30.cell? ⟨gb283, 2, none⟩ = some (.slice A0_2 l0_2.length c0_2) := (blk_cell BK283.out 2).trans rfl
  have hfz31_0 := blk_frozen BK283.out 0
  have hfz31_1 := blk_frozen BK283.out 1
  have hfz31_2 := blk_frozen BK283.out 2
  try go_wp2_with (first | ((with_reducible refine gate_callee (f := 43) rfl ?_); refine goesL_ (some 42) rfl rfl Try.func43 (by kernel_rfl) rfl #[.int .i64 (l0_2.length : Int)] rfl (by (try simp only [m_1, m_2, m_3]); first | done | rfl | (simp only [m_4, m_5]; rfl)) ?_; (with_reducible refine (impl_turns.calls k1 (l0_2.length : Int) t299 _ A27.out).mono ?_); rintro e w32 ⟨v300, rfl, ho0, hb⟩; refine ⟨_, rfl, ?_⟩; have n0_ := Aside0.mk (Kd.R_below (by (with_reducible repeat (first | apply r_a | apply r_d | apply r_e)); exact HO_5.out) hb); have n1_ := Aside0.mk (Kd.Q_below (by (with_reducible repeat (first | apply Kd.Q_alloc | apply Kd.Q_drewN | apply Kd.Q_drew)); exact HO_6.out) hb); have n2_ := Aside0.mk (Kd.R_lower ho0 (below_size (bB HB))); replace BK283 := bbx hb BK283; have n4_ := bsx hb HB; clear HO_5; clear HO_6; clear HB; have HO_5 := n0_; have HO_6 := n1_; have HO301 := n2_; have HB := n4_; clear n0_ n1_ n2_ n4_; (try clear hb); (try clear hb2); (try clear hk); (try clear hi); (try clear ho0); obtain ⟨Ao33, co33, eo33⟩ := Kd.R_slice HO301.out; subst eo33))
  go_loopg [6, 44] k1 (fun kq v6 v44 w' => ∃ (x5_2 : List Int) (x6_2 : List ByteArray) (x44_2 : Int), v44 = .int .i64 x44_2 ∧ Aside0 (impl_Gears_far.l1 kq x5_2 x6_2 (rd x5_1 t297) t299 (t299.length : Int) x44_2 a0_0 a0_1 l0_2 = some r) ∧ Aside0 (kq ≤ k1) ∧ Aside0 (Kd.R (Kd.int .i64) 3 w' w.heap.size (fun _ => True) (.slice (some ⟨go8, 0, none⟩) x5_1.length co8) x5_2) ∧ Aside0 (Kd.Q Kd.string 9 w' w.heap.size (fun _ => True) v6 x6_2) ∧ Aside0 (Kd.R k48 48 w' w.heap.size (fun _ => True) (.slice Ao33 t299.length co33) t299) ∧ Aside0 (w'.heap[gb283]? = some (.cells #[.int .i64 a0_0, .int .i64 a0_1, (.slice A0_2 l0_2.length c0_2)] 33 (0, 0))) ∧ Aside0 (Below w.heap.size w w'))
  case atStart => exact ⟨(x5_1), (x6_1), (0), (by first | rfl | (simp; done) | (simp [*]; done)), H', ⟨Nat.le_refl _⟩, ⟨by (try simp only [hl5_1]); (with_reducible repeat (first | apply r_a | apply r_d | apply r_e)); exact HO_5.out⟩, ⟨by (try simp only [hl5_1]); (with_reducible repeat (first | apply Kd.Q_alloc | apply Kd.Q_drewN | apply Kd.Q_drew)); exact HO_6.out⟩, ⟨by (try simp only [hl5_1]); (with_reducible repeat (first | apply r_a | apply r_d | apply r_e)); exact HO301.out⟩, ⟨by (try simp only [hl5_1]); (with_reducible repeat (first | refine g_d ?_ _ | refine g_e ?_ | refine g_a ?_ _)); exact BK283.out⟩, ⟨bB HB⟩⟩
  clear H'
  try clear c22
  try clear c22b0
  try clear c22b1
  try clear c23
  try clear c23b0
  try clear c23b1
  try clear c25
  try clear c25b0
  try clear c26
  try clear c26b0
  try clear hcz31_0
  try clear hcz31_1
  try clear hcz31_2
  try clear hfz31_0
  try clear hfz31_1
  try clear hfz31_2
  try clear hx296_0
  try clear hx298_0
  try clear p296
  try clear p298
  try clear q296
  try clear q298
  obtain ⟨x5_2, x6_2, x44_2, rfl, HA, HK2, HO_5, HO_6, HO_42, BK283, HB⟩ := hrel
  have hl5_2 := (Kd.R_reads' HO_5.out).1
  rw [hl5_2] at HO_5
  (try simp only [hl5_2])
  (try simp only [hl5_2] at BK283)
  (try simp only [hl5_2] at HO_6)
  (try simp only [hl5_2] at HO_42)
  rcases gk with _ | k2
  · exact absurd HA.out (by simp [impl_Gears_far.l1])
  have H := HA.out
  clear HA
  simp only [impl_Gears_far.l1] at H
  by_cases c34 : x44_2 < (t299.length : Int)
  rotate_left
  · rw [if_neg c34] at H
    have c34b0 : decide (x44_2 < (t299.length : Int)) = false := decide_eq_false c34
    clear c34
    by_cases c66 : 1 ≤ (x6_2.length : Int)
    rotate_left
    · rw [if_neg c66] at H
      exact absurd H (by simp)
    rw [if_pos c66] at H
    have c66b0 := eq_true c66
    have c66b1 : decide (1 ≤ (x6_2.length : Int)) = true := decide_eq_true c66
    clear c66
    obtain ⟨y302, hy302⟩ : ∃ y_ : List ByteArray, y_ = (x6_2.drop (1 : Int).toNat) := ⟨_, rfl⟩
    replace H : (impl_Gears_far.l0 k2 x5_2 y302 a0_0 a0_1 l0_2) = some r := by first | (rw [hy302]; with_reducible exact H) | (have H2_ := (Option.bind_some _ _).symm.trans H; rw [hy302]; with_reducible exact H2_) | (have H2_ := (Option.bind_some _ _).symm.trans H; with_reducible exact H2_) | with_reducible exact H | (rw [hy302]; exact H) | exact H
    have Ny302 := Aside0.mk hy302
    clear hy302
    have H' := Aside0.mk H
    clear H
    obtain ⟨Ao67, co67, eo67, _⟩ := Kd.Q_slice HO_6.out
    subst eo67
    have q68 : (1 : Int) ≤ ((x6_2.length : Int) : Int) := of_decide_eq_true (by first | (with_reducible assumption) | assumption)
    obtain ⟨i068, hi068, _, hsz68, _⟩ := info_parts info9
    have hcut68 := cut_from (P := Try.prog) 100 9 .i64 Try.underlying100 hi068 1 hsz68 Ao67 x6_2.length co67 1 (by omega) q68
    have hr68 := Kd.Q_drop (k := (1 : Int).toNat) HO_6.out (by omega)
    obtain ⟨A68, hA68⟩ : ∃ A1, A1 = (if co67 = (1 : Int).toNat then Ao67 else (Ao67 : Option Addr).map (·.add ((1 : Int).toNat * 1))) := ⟨_, rfl⟩
    obtain ⟨c68, hc68⟩ : ∃ c1, c1 = co67 - (1 : Int).toNat := ⟨_, rfl⟩
    have hy68 : y302.length = x6_2.length - (1 : Int).toNat := (by rw [Ny302.out, m_4])
    rw [← Ny302.out] at hr68
    rw [← hy68, ← hA68, ← hc68] at hcut68
    replace hr68 : Kd.Q Kd.string 9 wr w.heap.size (fun _ => True) (.slice A68 y302.length c68) y302 := (by rw [hA68, hc68, hy68]; exact hr68)
    have HE68 : Aside0 ((Value.slice A68 y302.length c68).ownBlock = (.slice Ao67 x6_2.length co67 : Value).ownBlock) := ⟨by rw [hA68]; split <;> (cases (Ao67 : Option Addr) <;> rfl)⟩
    clear hy68 hi068 hsz68 HO_6 hA68 hc68
    have HO304 := Aside0.mk hr68
    clear hr68
    replace q68 := eq_true q68
    go_wp2
    (try simp only [← hl5_1, ← hl5_2])
    go_roundg k2
    case measure => have := HK1.out; have := HK2.out; omega
    case rel => exact ⟨(x5_2), (y302), H', ⟨by have := HK1.out; have := HK2.out; omega⟩, ⟨by (try simp only [hl5_1]); (try simp only [hl5_2]); (with_reducible repeat (first | apply r_a | apply r_d | apply r_e)); exact HO_5.out⟩, ⟨by (try simp only [hl5_1]); (try simp only [hl5_2]); (with_reducible repeat (first | apply Kd.Q_alloc | apply Kd.Q_drewN | apply Kd.Q_drew)); exact HO304.out⟩, ⟨by (try simp only [hl5_1]); (try simp only [hl5_2]); (with_reducible repeat (first | refine g_d ?_ _ | refine g_e ?_ | refine g_a ?_ _)); exact BK283.out⟩, ⟨bB HB⟩⟩
  rw [if_pos c34] at H
  have c34b0 : decide (x44_2 < (t299.length : Int)) = true := decide_eq_true c34
  clear c34
  by_cases c35 : 0 ≤ x44_2
  rotate_left
  · rw [if_neg c35] at H
    exact absurd H (by simp)
  rw [if_pos c35] at H
  have c35b0 : decide (0 ≤ x44_2) = true := decide_eq_true c35
  clear c35
  by_cases c36 : x44_2 < (t299.length : Int)
  rotate_left
  · rw [if_neg c36] at H
    exact absurd H (by simp)
  rw [if_pos c36] at H
  have c36b0 : decide (x44_2 < (t299.length : Int)) = true := decide_eq_true c36
  clear c36
  by_cases c37 : 0 < (x6_2.length : Int)
  rotate_left
  · rw [if_neg c37] at H
    exact absurd H (by simp)
  rw [if_pos c37] at H
  have c37b0 : decide (0 < (x6_2.length : Int)) = true := decide_eq_true c37
  have c37b1 : decide (0 < x6_2.length) = true := decide_eq_true (by omega)
  clear c37
  replace H := Option.bind_eq_some_iff.mp H
  obtain ⟨t308, A380, H⟩ := H
  try dsimp only at H
  have A38 := Aside0.mk A380
  clear A380
  replace H := Option.bind_eq_some_iff.mp H
  obtain ⟨t309, A390, H⟩ := H
  try dsimp only at H
  have A39 := Aside0.mk A390
  clear A390
  by_cases c40 : 0 ≤ t309
  rotate_left
  · rw [if_neg c40] at H
    exact absurd H (by simp)
  rw [if_pos c40] at H
  have c40b0 : decide (0 ≤ t309) = true := decide_eq_true c40
  clear c40
  by_cases c41 : t309 < (x5_2.length : Int)
  rotate_left
  · rw [if_neg c41] at H
    exact absurd H (by simp)
  rw [if_pos c41] at H
  have c41b0 : decide (t309 < (x5_2.length : Int)) = true := decide_eq_true c41
  clear c41
  by_cases c42 : (rd x5_2 t309) < 0
  rotate_left
  · rw [if_neg c42] at H
    have c42b0 : decide ((rd x5_2 t309) < 0) = false := decide_eq_false c42
    clear c42
    have H' := Aside0.mk H
    clear H
    have p305 : 0 ≤ (x44_2 : Int) := of_decide_eq_true (by first | (with_reducible assumption) | assumption)
    have q305 : x44_2 < (t299.length : Int) := of_decide_eq_true (by first | (with_reducible assumption) | assumption)
    obtain ⟨ad305, e305, hx305_0, hx305_1⟩ := at_T48 (Kd.R_reads' HO_42.out).2.2 x44_2 p305 q305
    cases e305
    replace p305 := eq_true p305
    replace q305 := eq_true q305
    try go_wp2_with (first | ((with_reducible refine gate_dst (N := 9) rfl ?_); refine box_event ?hg (N := 9) ?hd (cs := #[.int .i64 0, .int .i64 0]) (t := 48) ?hr ?_; (case hd => rfl); (case hg => rfl); (case hr => first | (go_simp; done) | (go_simp; rfl)); intro gb306 hg w57 hbox hb; have n0_ := Aside0.mk (Kd.R_below (by (with_reducible repeat (first | apply r_a | apply r_d | apply r_e)); exact HO_5.out) hb); have n1_ := Aside0.mk (Kd.Q_below (by (with_reducible repeat (first | apply Kd.Q_alloc | apply Kd.Q_drewN | apply Kd.Q_drew)); exact HO_6.out) hb); have n2_ := Aside0.mk (Kd.R_below (Kd.R_elderB (by (with_reducible repeat (first | apply r_a | apply r_d | apply r_e)); exact HO_42.out) gb306 (Nat.le_of_eq hg.symm)) hb); have n3_ := bbx hb BK283; have n4_ := bsx hb HB; have n5_ := Aside0.mk (hbox); have n6_ := gwx hg HB; have n7_ := gwx hg HB; have n8_ := nlx hg BK283; have n9_ := ngx hg BK283; clear HO_5; clear HO_6; clear HO_42; clear BK283; clear HB; have HO_5 := n0_; have HO_6 := n1_; have HO_42 := n2_; have BK283 := n3_; have HB := n4_; have BK306 := n5_; have GW306 := n6_; have GE306 := n7_; have NB283_306 := n8_; have NB306_283 := n9_; clear n0_ n1_ n2_ n3_ n4_ n5_ n6_ n7_ n8_ n9_; clear hb hbox hg; have hnb58 := NB306_283.out; have hnc58 := NB283_306.out; have hcz59_0 := cz0 BK306; have hcz59_1 := cz1 BK306; have hfz59_0 := blk_frozen BK306.out 0; have hfz59_1 := blk_frozen BK306.out 1))
    have n0_ : Aside0 (Kd.R (Kd.int .i64) 3 ((w57.setCell ⟨gb306, 0, none⟩ (.int .i64 ((rd_T48 t299 x44_2).f0))).setCell ⟨gb306, 1, none⟩ (.int .i64 ((rd_T48 t299 x44_2).f1))) w.heap.size (fun _ => True) (.slice (some ⟨go8, 0, none⟩) x5_2.length co8) x5_2) := ⟨by (with_reducible repeat (first | apply r_a | apply r_d | apply r_e)); exact Kd.R_mono (Kd.R_far (p := ⟨gb306, 1, none⟩) (Kd.R_far (p := ⟨gb306, 0, none⟩) (Kd.R_types HO_5.out BK306.out (by decide)) (fun _ hk => hk.2) (.int .i64 ((rd_T48 t299 x44_2).f0))) (fun _ hk => hk.2) (.int .i64 ((rd_T48 t299 x44_2).f1))) (fun _ hk => trivial)⟩
    have n1_ : Aside0 (Kd.Q Kd.string 9 ((w57.setCell ⟨gb306, 0, none⟩ (.int .i64 ((rd_T48 t299 x44_2).f0))).setCell ⟨gb306, 1, none⟩ (.int .i64 ((rd_T48 t299 x44_2).f1))) w.heap.size (fun _ => True) u6 x6_2) := ⟨by (with_reducible repeat (first | apply Kd.Q_alloc | apply Kd.Q_drewN | apply Kd.Q_drew)); exact Kd.Q_mono (Kd.Q_far (p := ⟨gb306, 1, none⟩) (Kd.Q_far (p := ⟨gb306, 0, none⟩) (Kd.Q_types HO_6.out BK306.out (by decide)) (fun _ hk => hk.2) (.int .i64 ((rd_T48 t299 x44_2).f0))) (fun _ hk => hk.2) (.int .i64 ((rd_T48 t299 x44_2).f1))) (fun _ hk => trivial)⟩
    have n2_ : Aside0 (Kd.R k48 48 ((w57.setCell ⟨gb306, 0, none⟩ (.int .i64 ((rd_T48 t299 x44_2).f0))).setCell ⟨gb306, 1, none⟩ (.int .i64 ((rd_T48 t299 x44_2).f1))) w.heap.size (fun k_ => k_ ≠ gb306) (.slice (some ad305) t299.length co33) t299) := ⟨by (with_reducible repeat (first | apply r_a | apply r_d | apply r_e)); exact Kd.R_mono (Kd.R_far (p := ⟨gb306, 1, none⟩) (Kd.R_far (p := ⟨gb306, 0, none⟩) (Kd.R_mono HO_42.out (fun k_ hk => (⟨hk, hk.2⟩ : _ ∧ k_ ≠ gb306))) (fun _ hk => hk.2) (.int .i64 ((rd_T48 t299 x44_2).f0))) (fun _ hk => hk.2) (.int .i64 ((rd_T48 t299 x44_2).f1))) (fun _ hk => hk.1.2)⟩
    have n3_ : Aside0 (((w57.setCell ⟨gb306, 0, none⟩ (.int .i64 ((rd_T48 t299 x44_2).f0))).setCell ⟨gb306, 1, none⟩ (.int .i64 ((rd_T48 t299 x44_2).f1))).heap[gb283]? = some (.cells #[.int .i64 a0_0, .int .i64 a0_1, .slice A0_2 l0_2.length c0_2] 33 (0, 0))) := ⟨bF⟩
    have n4_ : Aside0 (((w57.setCell ⟨gb306, 0, none⟩ (.int .i64 ((rd_T48 t299 x44_2).f0))).setCell ⟨gb306, 1, none⟩ (.int .i64 ((rd_T48 t299 x44_2).f1))).heap[gb306]? = some (.cells #[.int .i64 ((rd_T48 t299 x44_2).f0), .int .i64 ((rd_T48 t299 x44_2).f1)] 48 (0, 0))) := ⟨by (with_reducible repeat (first | refine g_d ?_ _ | refine g_e ?_ | refine g_a ?_ _)); refine blk_put (cs := #[.int .i64 ((rd_T48 t299 x44_2).f0), .int .i64 0]) ?_ 1 _ rfl; (with_reducible repeat (first | refine g_d ?_ _ | refine g_e ?_ | refine g_a ?_ _)); refine blk_put (cs := #[.int .i64 0, .int .i64 0]) ?_ 0 _ rfl; (with_reducible repeat (first | refine g_d ?_ _ | refine g_e ?_ | refine g_a ?_ _)); exact BK306.out⟩
    have n5_ : Aside0 (Below w.heap.size w ((w57.setCell ⟨gb306, 0, none⟩ (.int .i64 ((rd_T48 t299 x44_2).f0))).setCell ⟨gb306, 1, none⟩ (.int .i64 ((rd_T48 t299 x44_2).f1)))) := ⟨bB HB⟩
    (try clear HO_5)
    (try clear HO_6)
    (try clear HO_42)
    (try clear BK283)
    (try clear BK306)
    (try clear HB)
    generalize ((w57.setCell ⟨gb306, 0, none⟩ (.int .i64 ((rd_T48 t299 x44_2).f0))).setCell ⟨gb306, 1, none⟩ (.int .i64 ((rd_T48 t299 x44_2).f1))) = w60 at n0_ n1_ n2_ n3_ n4_ n5_ ⊢
    have HO_5 := n0_
    have HO_6 := n1_
    have HO_42 := n2_
    have BK283 := n3_
    have BK306 := n4_
    have HB := n5_
    clear n0_ n1_ n2_ n3_ n4_ n5_
    have n0_ := Aside0.mk (r_e HO_5.out)
    have n1_ := Aside0.mk (Kd.Q_drew HO_6.out)
    have n2_ := Aside0.mk (r_e HO_42.out)
    have n3_ := Aside0.mk (g_e BK283.out)
    have n4_ := Aside0.mk (g_e BK306.out)
    have n5_ := Aside0.mk (b_e HB.out)
    clear HO_5
    clear HO_6
    clear HO_42
    clear BK283
    clear BK306
    clear HB
    have HO_5 := n0_
    have HO_6 := n1_
    have HO_42 := n2_
    have BK283 := n3_
    have BK306 := n4_
    have HB := n5_
    clear n0_ n1_ n2_ n3_ n4_ n5_
    obtain ⟨Ao62, co62, eo62, _⟩ := Kd.Q_slice HO_6.out
    (first | subst eo62 | (injection eo62 with f1_ f2_ f3_; have f4_ := f1_.symm; have f5_ := f3_.symm; clear f1_ f2_ f3_; subst f4_; subst f5_))
    have p307 : 0 ≤ (0 : Int) := (by omega)
    have q307 : 0 < (x6_2.length : Int) := of_decide_eq_true (by first | (with_reducible assumption) | assumption)
    obtain ⟨ad307, e307, hx307_0⟩ := Kd.at_string (Kd.Q_reads' HO_6.out).2.2 0 p307 q307
    cases e307
    have qi307 : (0 < x6_2.length) = True := eq_true (by omega)
    (try rw [show ((0 : Int)).toNat = 0 from rfl] at hx307_0)
    (try rw [Addr.add_zero'] at hx307_0)
    replace p307 := eq_true p307
    replace q307 := eq_true q307
    refine start_ (n := 10) (S := fun w' => w'.cell? ⟨gb283, 0, none⟩ = some (.int .i64 a0_0) ∧ w'.cell? ⟨gb283, 1, none⟩ = some (.int .i64 a0_1) ∧ w'.cell? ⟨gb283, 2, none⟩ = some (.slice A0_2 l0_2.length c0_2) ∧ w'.cell? ⟨gb306, 0, none⟩ = some (.int .i64 ((rd_T48 t299 x44_2).f0)) ∧ w'.cell? ⟨gb306, 1, none⟩ = some (.int .i64 ((rd_T48 t299 x44_2).f1)) ∧ w'.cell? ad307 = some (.string (rdOf ByteArray.empty x6_2 0))) (ds := []) (bs_ 10 0) (by kernel_rfl) rfl rfl ⟨(blk_cell BK283.out 0).trans rfl, (blk_cell BK283.out 1).trans rfl, (blk_cell BK283.out 2).trans rfl, (blk_cell BK306.out 0).trans rfl, (blk_cell BK306.out 1).trans rfl, hx307_0⟩ (fun hHeld => ?_); refine with_tabW impl_Gears_far.tab10 impl_Gears_far.bits10 (fun HT_ HW_ => ?_)
    generalize w60.drew = w61 at HO_5 HO_6 HO_42 BK283 BK306 HB hx307_0 hHeld ⊢
    refine pua 1 49 (bs_ 10 2) HT_ ?_
    refine pua 2 50 (bs_ 10 6) HT_ ?_
    refine pua 4 52 (bs_ 10 22) HT_ ?_
    refine pua 6 54 (bs_ 10 86) HT_ ?_
    refine tk_ 0 48 (bs_ 10 87) rfl rfl HT_ HW_ (by kernel_rfl) (fun _ _ _ h => h) (by rfl) hHeld (by rintro w' ⟨s0, s1, s2, s3, s4, s5⟩; go_simp; with_reducible rfl) (by simp only [Act.put, s_1, s_2, s_3, i64_w, i32_w]; rfl) ?_
    refine tk_ 3 51 (bs_ 10 95) rfl rfl HT_ HW_ (by kernel_rfl) (fun _ _ _ h => h) (by rfl) hHeld (by rintro w' ⟨s0, s1, s2, s3, s4, s5⟩; go_simp; with_reducible rfl) (by simp only [Act.put, s_1, s_2, s_3, i64_w, i32_w]; rfl) ?_
    refine tk_ 5 53 (bs_ 10 127) rfl rfl HT_ HW_ (by kernel_rfl) (fun _ _ _ h => h) (by rfl) hHeld (by rintro w' ⟨s0, s1, s2, s3, s4, s5⟩; go_simp; with_reducible rfl) (by simp only [Act.put, s_1, s_2, s_3, i64_w, i32_w]; rfl) ?_
    refine tk_ 7 55 (bs_ 10 255) rfl rfl HT_ HW_ (by kernel_rfl) (fun _ _ _ h => h) (by rfl) hHeld (by rintro w' ⟨s0, s1, s2, s3, s4, s5⟩; go_simp; with_reducible rfl) (by simp only [Act.put, s_1, s_2, s_3, i64_w, i32_w]; rfl) ?_
    refine one_ (i := 8) (N := some 56) (bs_ 10 511) rfl rfl (one_of HT_.out (by kernel_rfl)) (by decide) (fun K hK => ?_)
    refine goes_ Try.func44 (by kernel_rfl) rfl #[.agg #[.int .i64 a0_0, .int .i64 a0_1, .slice A0_2 l0_2.length c0_2], .string (rdOf ByteArray.empty x6_2 0), .int .i64 ((rd_T48 t299 x44_2).f0), .int .i64 ((rd_T48 t299 x44_2).f1)] (by rfl) rfl rfl (by (try simp only [m_1, m_2, m_3]); first | done | rfl | (simp only [m_4, m_5]; rfl)) ?_
    with_reducible refine (impl_Gears_turned.calls k2 a0_0 a0_1 _ _ l0_2 (rdOf ByteArray.empty x6_2 0) ((rd_T48 t299 x44_2).f0) ((rd_T48 t299 x44_2).f1) t308 _ ?side1 ?side2 A38.out).mono ?_
    (case side1 => repeat (first | exact (Kd.C_below HR0_2.out HB.out) | (with_reducible refine Kd.C_alloc ?_ _) | (with_reducible refine Kd.C_drewN ?_ _) | (with_reducible refine Kd.C_drew ?_)))
    (case side2 => exact HC0_2.out)
    rintro e w63 ⟨rfl, hb⟩
    have HS5_ := (hb.cell (World.block_lt_of_cell? _ _ (hHeld.2.2.2.2.2))).trans (hHeld.2.2.2.2.2)
    refine ⟨_, rfl, ?_⟩
    have n0_ := Aside0.mk (Kd.R_below (by (with_reducible repeat (first | apply r_a | apply r_d | apply r_e)); exact HO_5.out) hb)
    have n1_ := Aside0.mk (Kd.Q_below (by (with_reducible repeat (first | apply Kd.Q_alloc | apply Kd.Q_drewN | apply Kd.Q_drew)); exact HO_6.out) hb)
    have n2_ := Aside0.mk (Kd.R_below (by (with_reducible repeat (first | apply r_a | apply r_d | apply r_e)); exact HO_42.out) hb)
    have n3_ := bbx hb BK283
    have n4_ := bbx hb BK306
    have n5_ := bsx hb HB
    clear HO_5
    clear HO_6
    clear HO_42
    clear BK283
    clear BK306
    clear HB
    have HO_5 := n0_
    have HO_6 := n1_
    have HO_42 := n2_
    have BK283 := n3_
    have BK306 := n4_
    have HB := n5_
    clear n0_ n1_ n2_ n3_ n4_ n5_
    (try clear hb)
    (try clear hb2)
    (try clear hk)
    (try clear hi)
    refine hK.out _ _ ⟨(blk_cell BK283.out 0).trans rfl, (blk_cell BK283.out 1).trans rfl, (blk_cell BK283.out 2).trans rfl, (blk_cell BK306.out 0).trans rfl, (blk_cell BK306.out 1).trans rfl, HS5_⟩ (fun hHeld => ?_)
    clear hK K
    refine norm_ (a' := ?_) ?_ ?_
    rotate_left
    · show Act.put _ (some 56) _ = _
      simp only [Act.put, s_1, s_2, s_3, i64_w, i32_w]
      rfl
    refine pua 9 10 (bs_ 10 1023) HT_ ?_
    refine done_ (done_of HT_.out (by kernel_rfl)) ?_
    have hcz64_0 : w63.cell? ⟨gb283, 0, none⟩ = some (.int .i64 a0_0) := (blk_cell BK283.out 0).trans rfl
    have hcz64_1 : w63.cell? ⟨gb283, 1, none⟩ = some (.int .i64 a0_1) := (blk_cell BK283.out 1).trans rfl
    have hcz64_2 : w63.cell? ⟨gb283, 2, none⟩ = some (.slice A0_2 l0_2.length c0_2) := (blk_cell BK283.out 2).trans rfl
    have hfz64_0 := blk_frozen BK283.out 0
    have hfz64_1 := blk_frozen BK283.out 1
    have hfz64_2 := blk_frozen BK283.out 2
    try go_wp2_with (first | ((with_reducible refine gate_callee (f := 42) rfl ?_); refine goesL_ (some 60) rfl rfl Try.func42 (by kernel_rfl) rfl #[.agg #[.int .i64 a0_0, .int .i64 a0_1], .string t308] rfl (by (try simp only [m_1, m_2, m_3]); first | done | rfl | (simp only [m_4, m_5]; rfl)) ?_; (with_reducible refine (impl_Lock_number.calls k2 a0_0 a0_1 t308 t309 _ A39.out).mono ?_); rintro e w65 ⟨rfl, hb⟩; refine ⟨_, rfl, ?_⟩; have n0_ := Aside0.mk (Kd.R_below (by (with_reducible repeat (first | apply r_a | apply r_d | apply r_e)); exact HO_5.out) hb); have n1_ := Aside0.mk (Kd.Q_below (by (with_reducible repeat (first | apply Kd.Q_alloc | apply Kd.Q_drewN | apply Kd.Q_drew)); exact HO_6.out) hb); have n2_ := Aside0.mk (Kd.R_below (by (with_reducible repeat (first | apply r_a | apply r_d | apply r_e)); exact HO_42.out) hb); replace BK283 := bbx hb BK283; replace BK306 := bbx hb BK306; replace HB := bsx hb HB; clear HO_5; clear HO_6; clear HO_42; have HO_5 := n0_; have HO_6 := n1_; have HO_42 := n2_; clear n0_ n1_ n2_; (try clear hb); (try clear hb2); (try clear hk); (try clear hi); have p310 : 0 ≤ (t309 : Int) := of_decide_eq_true (by first | (with_reducible assumption) | assumption); have q310 : t309 < (x5_2.length : Int) := of_decide_eq_true (by first | (with_reducible assumption) | assumption); obtain ⟨ad310, e310, hx310_0⟩ := Kd.at_int (Kd.R_reads' HO_5.out).2.2 t309 p310 q310; obtain rfl : (⟨go8, 0, none⟩ : Addr) = ad310 := (by injection e310); (first | simp only [add_plain] at hx310_0 | simp only [add_at] at hx310_0 | simp only [Addr.add, Nat.zero_add] at hx310_0 | skip); replace p310 := eq_true p310; replace q310 := eq_true q310))
    (try simp only [← hl5_2])
    go_roundg k2
    case measure => have := HK1.out; have := HK2.out; omega
    case rel => exact ⟨(x5_2), (x6_2), (wrap64 (x44_2 + 1)), (by first | rfl | (simp; done) | (simp [*]; done)), H', ⟨by have := HK1.out; have := HK2.out; omega⟩, ⟨by (try simp only [hl5_1]); (try simp only [hl5_2]); (with_reducible repeat (first | apply r_a | apply r_d | apply r_e)); exact HO_5.out⟩, ⟨by (try simp only [hl5_1]); (try simp only [hl5_2]); (with_reducible repeat (first | apply Kd.Q_alloc | apply Kd.Q_drewN | apply Kd.Q_drew)); exact HO_6.out⟩, ⟨by (try simp only [hl5_1]); (try simp only [hl5_2]); (with_reducible repeat (first | apply r_a | apply r_d | apply r_e)); exact Kd.R_mono HO_42.out (fun _ hk => trivial)⟩, ⟨by (try simp only [hl5_1]); (try simp only [hl5_2]); (with_reducible repeat (first | refine g_d ?_ _ | refine g_e ?_ | refine g_a ?_ _)); exact BK283.out⟩, ⟨bB HB⟩⟩
  rw [if_pos c42] at H
  have c42b0 : decide ((rd x5_2 t309) < 0) = true := decide_eq_true c42
  clear c42
  obtain ⟨y311, hy311⟩ : ∃ y_ : List Int, y_ = (x5_2.set (t309 : Int).toNat (wrap64 ((rd x5_1 t297) + 1))) := ⟨_, rfl⟩
  replace H : (if x6_2.length < 8796093022208 then (impl_Gears_far.l1 k2 y311 (x6_2 ++ [t308]) (rd x5_1 t297) t299 (t299.length : Int) (wrap64 (x44_2 + 1)) a0_0 a0_1 l0_2) else (none)) = some r := by first | (rw [hy311]; with_reducible exact H) | (have H2_ := (Option.bind_some _ _).symm.trans H; rw [hy311]; with_reducible exact H2_) | (have H2_ := (Option.bind_some _ _).symm.trans H; with_reducible exact H2_) | with_reducible exact H | (rw [hy311]; exact H) | exact H
  have Ny311 := Aside0.mk hy311
  clear hy311
  by_cases c44 : x6_2.length < 8796093022208
  rotate_left
  · rw [if_neg c44] at H
    exact absurd H (by simp)
  rw [if_pos c44] at H
  have LMc44 := Aside0.mk c44
  clear c44
  obtain ⟨y312, hy312⟩ : ∃ y_ : List ByteArray, y_ = (x6_2 ++ [t308]) := ⟨_, rfl⟩
  replace H : (impl_Gears_far.l1 k2 y311 y312 (rd x5_1 t297) t299 (t299.length : Int) (wrap64 (x44_2 + 1)) a0_0 a0_1 l0_2) = some r := by first | (rw [hy312]; with_reducible exact H) | (have H2_ := (Option.bind_some _ _).symm.trans H; rw [hy312]; with_reducible exact H2_) | (have H2_ := (Option.bind_some _ _).symm.trans H; with_reducible exact H2_) | with_reducible exact H | (rw [hy312]; exact H) | exact H
  have Ny312 := Aside0.mk hy312
  clear hy312
  have H' := Aside0.mk H
  clear H
  have p305 : 0 ≤ (x44_2 : Int) := of_decide_eq_true (by first | (with_reducible assumption) | assumption)
  have q305 : x44_2 < (t299.length : Int) := of_decide_eq_true (by first | (with_reducible assumption) | assumption)
  obtain ⟨ad305, e305, hx305_0, hx305_1⟩ := at_T48 (Kd.R_reads' HO_42.out).2.2 x44_2 p305 q305
  cases e305
  replace p305 := eq_true p305
  replace q305 := eq_true q305
  try go_wp2_with (first | ((with_reducible refine gate_dst (N := 9) rfl ?_); refine box_event ?hg (N := 9) ?hd (cs := #[.int .i64 0, .int .i64 0]) (t := 48) ?hr ?_; (case hd => rfl); (case hg => rfl); (case hr => first | (go_simp; done) | (go_simp; rfl)); intro gb306 hg w45 hbox hb; have n0_ := Aside0.mk (Kd.R_below (by (with_reducible repeat (first | apply r_a | apply r_d | apply r_e)); exact HO_5.out) hb); have n1_ := Aside0.mk (Kd.Q_below (by (with_reducible repeat (first | apply Kd.Q_alloc | apply Kd.Q_drewN | apply Kd.Q_drew)); exact HO_6.out) hb); have n2_ := Aside0.mk (Kd.R_below (Kd.R_elderB (by (with_reducible repeat (first | apply r_a | apply r_d | apply r_e)); exact HO_42.out) gb306 (Nat.le_of_eq hg.symm)) hb); have n3_ := bbx hb BK283; have n4_ := bsx hb HB; have n5_ := Aside0.mk (hbox); have n6_ := gwx hg HB; have n7_ := gwx hg HB; have n8_ := nlx hg BK283; have n9_ := ngx hg BK283; clear HO_5; clear HO_6; clear HO_42; clear BK283; clear HB; have HO_5 := n0_; have HO_6 := n1_; have HO_42 := n2_; have BK283 := n3_; have HB := n4_; have BK306 := n5_; have GW306 := n6_; have GE306 := n7_; have NB283_306 := n8_; have NB306_283 := n9_; clear n0_ n1_ n2_ n3_ n4_ n5_ n6_ n7_ n8_ n9_; clear hb hbox hg; have hnb46 := NB306_283.out; have hnc46 := NB283_306.out; have hcz47_0 := cz0 BK306; have hcz47_1 := cz1 BK306; have hfz47_0 := blk_frozen BK306.out 0; have hfz47_1 := blk_frozen BK306.out 1))
  have n0_ : Aside0 (Kd.R (Kd.int .i64) 3 ((w45.setCell ⟨gb306, 0, none⟩ (.int .i64 ((rd_T48 t299 x44_2).f0))).setCell ⟨gb306, 1, none⟩ (.int .i64 ((rd_T48 t299 x44_2).f1))) w.heap.size (fun _ => True) (.slice (some ⟨go8, 0, none⟩) x5_2.length co8) x5_2) := ⟨by (with_reducible repeat (first | apply r_a | apply r_d | apply r_e)); exact Kd.R_mono (Kd.R_far (p := ⟨gb306, 1, none⟩) (Kd.R_far (p := ⟨gb306, 0, none⟩) (Kd.R_types HO_5.out BK306.out (by decide)) (fun _ hk => hk.2) (.int .i64 ((rd_T48 t299 x44_2).f0))) (fun _ hk => hk.2) (.int .i64 ((rd_T48 t299 x44_2).f1))) (fun _ hk => trivial)⟩
  have n1_ : Aside0 (Kd.Q Kd.string 9 ((w45.setCell ⟨gb306, 0, none⟩ (.int .i64 ((rd_T48 t299 x44_2).f0))).setCell ⟨gb306, 1, none⟩ (.int .i64 ((rd_T48 t299 x44_2).f1))) w.heap.size (fun _ => True) u6 x6_2) := ⟨by (with_reducible repeat (first | apply Kd.Q_alloc | apply Kd.Q_drewN | apply Kd.Q_drew)); exact Kd.Q_mono (Kd.Q_far (p := ⟨gb306, 1, none⟩) (Kd.Q_far (p := ⟨gb306, 0, none⟩) (Kd.Q_types HO_6.out BK306.out (by decide)) (fun _ hk => hk.2) (.int .i64 ((rd_T48 t299 x44_2).f0))) (fun _ hk => hk.2) (.int .i64 ((rd_T48 t299 x44_2).f1))) (fun _ hk => trivial)⟩
  have n2_ : Aside0 (Kd.R k48 48 ((w45.setCell ⟨gb306, 0, none⟩ (.int .i64 ((rd_T48 t299 x44_2).f0))).setCell ⟨gb306, 1, none⟩ (.int .i64 ((rd_T48 t299 x44_2).f1))) w.heap.size (fun k_ => k_ ≠ gb306) (.slice (some ad305) t299.length co33) t299) := ⟨by (with_reducible repeat (first | apply r_a | apply r_d | apply r_e)); exact Kd.R_mono (Kd.R_far (p := ⟨gb306, 1, none⟩) (Kd.R_far (p := ⟨gb306, 0, none⟩) (Kd.R_mono HO_42.out (fun k_ hk => (⟨hk, hk.2⟩ : _ ∧ k_ ≠ gb306))) (fun _ hk => hk.2) (.int .i64 ((rd_T48 t299 x44_2).f0))) (fun _ hk => hk.2) (.int .i64 ((rd_T48 t299 x44_2).f1))) (fun _ hk => hk.1.2)⟩
  have n3_ : Aside0 (((w45.setCell ⟨gb306, 0, none⟩ (.int .i64 ((rd_T48 t299 x44_2).f0))).setCell ⟨gb306, 1, none⟩ (.int .i64 ((rd_T48 t299 x44_2).f1))).heap[gb283]? = some (.cells #[.int .i64 a0_0, .int .i64 a0_1, .slice A0_2 l0_2.length c0_2] 33 (0, 0))) := ⟨bF⟩
  have n4_ : Aside0 (((w45.setCell ⟨gb306, 0, none⟩ (.int .i64 ((rd_T48 t299 x44_2).f0))).setCell ⟨gb306, 1, none⟩ (.int .i64 ((rd_T48 t299 x44_2).f1))).heap[gb306]? = some (.cells #[.int .i64 ((rd_T48 t299 x44_2).f0), .int .i64 ((rd_T48 t299 x44_2).f1)] 48 (0, 0))) := ⟨by (with_reducible repeat (first | refine g_d ?_ _ | refine g_e ?_ | refine g_a ?_ _)); refine blk_put (cs := #[.int .i64 ((rd_T48 t299 x44_2).f0), .int .i64 0]) ?_ 1 _ rfl; (with_reducible repeat (first | refine g_d ?_ _ | refine g_e ?_ | refine g_a ?_ _)); refine blk_put (cs := #[.int .i64 0, .int .i64 0]) ?_ 0 _ rfl; (with_reducible repeat (first | refine g_d ?_ _ | refine g_e ?_ | refine g_a ?_ _)); exact BK306.out⟩
  have n5_ : Aside0 (Below w.heap.size w ((w45.setCell ⟨gb306, 0, none⟩ (.int .i64 ((rd_T48 t299 x44_2).f0))).setCell ⟨gb306, 1, none⟩ (.int .i64 ((rd_T48 t299 x44_2).f1)))) := ⟨bB HB⟩
  (try clear HO_5)
  (try clear HO_6)
  (try clear HO_42)
  (try clear BK283)
  (try clear BK306)
  (try clear HB)
  generalize ((w45.setCell ⟨gb306, 0, none⟩ (.int .i64 ((rd_T48 t299 x44_2).f0))).setCell ⟨gb306, 1, none⟩ (.int .i64 ((rd_T48 t299 x44_2).f1))) = w48 at n0_ n1_ n2_ n3_ n4_ n5_ ⊢
  have HO_5 := n0_
  have HO_6 := n1_
  have HO_42 := n2_
  have BK283 := n3_
  have BK306 := n4_
  have HB := n5_
  clear n0_ n1_ n2_ n3_ n4_ n5_
  have n0_ := Aside0.mk (r_e HO_5.out)
  have n1_ := Aside0.mk (Kd.Q_drew HO_6.out)
  have n2_ := Aside0.mk (r_e HO_42.out)
  have n3_ := Aside0.mk (g_e BK283.out)
  have n4_ := Aside0.mk (g_e BK306.out)
  have n5_ := Aside0.mk (b_e HB.out)
  clear HO_5
  clear HO_6
  clear HO_42
  clear BK283
  clear BK306
  clear HB
  have HO_5 := n0_
  have HO_6 := n1_
  have HO_42 := n2_
  have BK283 := n3_
  have BK306 := n4_
  have HB := n5_
  clear n0_ n1_ n2_ n3_ n4_ n5_
  obtain ⟨Ao50, co50, eo50, _⟩ := Kd.Q_slice HO_6.out
  (first | subst eo50 | (injection eo50 with f1_ f2_ f3_; have f4_ := f1_.symm; have f5_ := f3_.symm; clear f1_ f2_ f3_; subst f4_; subst f5_))
  have p307 : 0 ≤ (0 : Int) := (by omega)
  have q307 : 0 < (x6_2.length : Int) := of_decide_eq_true (by first | (with_reducible assumption) | assumption)
  obtain ⟨ad307, e307, hx307_0⟩ := Kd.at_string (Kd.Q_reads' HO_6.out).2.2 0 p307 q307
  cases e307
  have qi307 : (0 < x6_2.length) = True := eq_true (by omega)
  (try rw [show ((0 : Int)).toNat = 0 from rfl] at hx307_0)
  (try rw [Addr.add_zero'] at hx307_0)
  replace p307 := eq_true p307
  replace q307 := eq_true q307
  refine start_ (n := 10) (S := fun w' => w'.cell? ⟨gb283, 0, none⟩ = some (.int .i64 a0_0) ∧ w'.cell? ⟨gb283, 1, none⟩ = some (.int .i64 a0_1) ∧ w'.cell? ⟨gb283, 2, none⟩ = some (.slice A0_2 l0_2.length c0_2) ∧ w'.cell? ⟨gb306, 0, none⟩ = some (.int .i64 ((rd_T48 t299 x44_2).f0)) ∧ w'.cell? ⟨gb306, 1, none⟩ = some (.int .i64 ((rd_T48 t299 x44_2).f1)) ∧ w'.cell? ad307 = some (.string (rdOf ByteArray.empty x6_2 0))) (ds := []) (bs_ 10 0) (by kernel_rfl) rfl rfl ⟨(blk_cell BK283.out 0).trans rfl, (blk_cell BK283.out 1).trans rfl, (blk_cell BK283.out 2).trans rfl, (blk_cell BK306.out 0).trans rfl, (blk_cell BK306.out 1).trans rfl, hx307_0⟩ (fun hHeld => ?_); refine with_tabW impl_Gears_far.tab10 impl_Gears_far.bits10 (fun HT_ HW_ => ?_)
  generalize w48.drew = w49 at HO_5 HO_6 HO_42 BK283 BK306 HB hx307_0 hHeld ⊢
  refine pua 1 49 (bs_ 10 2) HT_ ?_
  refine pua 2 50 (bs_ 10 6) HT_ ?_
  refine pua 4 52 (bs_ 10 22) HT_ ?_
  refine pua 6 54 (bs_ 10 86) HT_ ?_
  refine tk_ 0 48 (bs_ 10 87) rfl rfl HT_ HW_ (by kernel_rfl) (fun _ _ _ h => h) (by rfl) hHeld (by rintro w' ⟨s0, s1, s2, s3, s4, s5⟩; go_simp; with_reducible rfl) (by simp only [Act.put, s_1, s_2, s_3, i64_w, i32_w]; rfl) ?_
  refine tk_ 3 51 (bs_ 10 95) rfl rfl HT_ HW_ (by kernel_rfl) (fun _ _ _ h => h) (by rfl) hHeld (by rintro w' ⟨s0, s1, s2, s3, s4, s5⟩; go_simp; with_reducible rfl) (by simp only [Act.put, s_1, s_2, s_3, i64_w, i32_w]; rfl) ?_
  refine tk_ 5 53 (bs_ 10 127) rfl rfl HT_ HW_ (by kernel_rfl) (fun _ _ _ h => h) (by rfl) hHeld (by rintro w' ⟨s0, s1, s2, s3, s4, s5⟩; go_simp; with_reducible rfl) (by simp only [Act.put, s_1, s_2, s_3, i64_w, i32_w]; rfl) ?_
  refine tk_ 7 55 (bs_ 10 255) rfl rfl HT_ HW_ (by kernel_rfl) (fun _ _ _ h => h) (by rfl) hHeld (by rintro w' ⟨s0, s1, s2, s3, s4, s5⟩; go_simp; with_reducible rfl) (by simp only [Act.put, s_1, s_2, s_3, i64_w, i32_w]; rfl) ?_
  refine one_ (i := 8) (N := some 56) (bs_ 10 511) rfl rfl (one_of HT_.out (by kernel_rfl)) (by decide) (fun K hK => ?_)
  refine goes_ Try.func44 (by kernel_rfl) rfl #[.agg #[.int .i64 a0_0, .int .i64 a0_1, .slice A0_2 l0_2.length c0_2], .string (rdOf ByteArray.empty x6_2 0), .int .i64 ((rd_T48 t299 x44_2).f0), .int .i64 ((rd_T48 t299 x44_2).f1)] (by rfl) rfl rfl (by (try simp only [m_1, m_2, m_3]); first | done | rfl | (simp only [m_4, m_5]; rfl)) ?_
  with_reducible refine (impl_Gears_turned.calls k2 a0_0 a0_1 _ _ l0_2 (rdOf ByteArray.empty x6_2 0) ((rd_T48 t299 x44_2).f0) ((rd_T48 t299 x44_2).f1) t308 _ ?side1 ?side2 A38.out).mono ?_
  (case side1 => repeat (first | exact (Kd.C_below HR0_2.out HB.out) | (with_reducible refine Kd.C_alloc ?_ _) | (with_reducible refine Kd.C_drewN ?_ _) | (with_reducible refine Kd.C_drew ?_)))
  (case side2 => exact HC0_2.out)
  rintro e w51 ⟨rfl, hb⟩
  have HS5_ := (hb.cell (World.block_lt_of_cell? _ _ (hHeld.2.2.2.2.2))).trans (hHeld.2.2.2.2.2)
  refine ⟨_, rfl, ?_⟩
  have n0_ := Aside0.mk (Kd.R_below (by (with_reducible repeat (first | apply r_a | apply r_d | apply r_e)); exact HO_5.out) hb)
  have n1_ := Aside0.mk (Kd.Q_below (by (with_reducible repeat (first | apply Kd.Q_alloc | apply Kd.Q_drewN | apply Kd.Q_drew)); exact HO_6.out) hb)
  have n2_ := Aside0.mk (Kd.R_below (by (with_reducible repeat (first | apply r_a | apply r_d | apply r_e)); exact HO_42.out) hb)
  have n3_ := bbx hb BK283
  have n4_ := bbx hb BK306
  have n5_ := bsx hb HB
  clear HO_5
  clear HO_6
  clear HO_42
  clear BK283
  clear BK306
  clear HB
  have HO_5 := n0_
  have HO_6 := n1_
  have HO_42 := n2_
  have BK283 := n3_
  have BK306 := n4_
  have HB := n5_
  clear n0_ n1_ n2_ n3_ n4_ n5_
  (try clear hb)
  (try clear hb2)
  (try clear hk)
  (try clear hi)
  refine hK.out _ _ ⟨(blk_cell BK283.out 0).trans rfl, (blk_cell BK283.out 1).trans rfl, (blk_cell BK283.out 2).trans rfl, (blk_cell BK306.out 0).trans rfl, (blk_cell BK306.out 1).trans rfl, HS5_⟩ (fun hHeld => ?_)
  clear hK K
  refine norm_ (a' := ?_) ?_ ?_
  rotate_left
  · show Act.put _ (some 56) _ = _
    simp only [Act.put, s_1, s_2, s_3, i64_w, i32_w]
    rfl
  refine pua 9 10 (bs_ 10 1023) HT_ ?_
  refine done_ (done_of HT_.out (by kernel_rfl)) ?_
  have hcz52_0 : w51.cell? ⟨gb283, 0, none⟩ = some (.int .i64 a0_0) := (blk_cell BK283.out 0).trans rfl
  have hcz52_1 : w51.cell? ⟨gb283, 1, none⟩ = some (.int .i64 a0_1) := (blk_cell BK283.out 1).trans rfl
  have hcz52_2 : w51.cell? ⟨gb283, 2, none⟩ = some (.slice A0_2 l0_2.length c0_2) := (blk_cell BK283.out 2).trans rfl
  have hfz52_0 := blk_frozen BK283.out 0
  have hfz52_1 := blk_frozen BK283.out 1
  have hfz52_2 := blk_frozen BK283.out 2
  try go_wp2_with (first | ((with_reducible refine gate_callee (f := 42) rfl ?_); refine goesL_ (some 60) rfl rfl Try.func42 (by kernel_rfl) rfl #[.agg #[.int .i64 a0_0, .int .i64 a0_1], .string t308] rfl (by (try simp only [m_1, m_2, m_3]); first | done | rfl | (simp only [m_4, m_5]; rfl)) ?_; (with_reducible refine (impl_Lock_number.calls k2 a0_0 a0_1 t308 t309 _ A39.out).mono ?_); rintro e w53 ⟨rfl, hb⟩; refine ⟨_, rfl, ?_⟩; have n0_ := Aside0.mk (Kd.R_below (by (with_reducible repeat (first | apply r_a | apply r_d | apply r_e)); exact HO_5.out) hb); have n1_ := Aside0.mk (Kd.Q_below (by (with_reducible repeat (first | apply Kd.Q_alloc | apply Kd.Q_drewN | apply Kd.Q_drew)); exact HO_6.out) hb); have n2_ := Aside0.mk (Kd.R_below (by (with_reducible repeat (first | apply r_a | apply r_d | apply r_e)); exact HO_42.out) hb); replace BK283 := bbx hb BK283; replace BK306 := bbx hb BK306; replace HB := bsx hb HB; clear HO_5; clear HO_6; clear HO_42; have HO_5 := n0_; have HO_6 := n1_; have HO_42 := n2_; clear n0_ n1_ n2_; (try clear hb); (try clear hb2); (try clear hk); (try clear hi); have p310 : 0 ≤ (t309 : Int) := of_decide_eq_true (by first | (with_reducible assumption) | assumption); have q310 : t309 < (x5_2.length : Int) := of_decide_eq_true (by first | (with_reducible assumption) | assumption); obtain ⟨ad310, e310, hx310_0⟩ := Kd.at_int (Kd.R_reads' HO_5.out).2.2 t309 p310 q310; obtain rfl : (⟨go8, 0, none⟩ : Addr) = ad310 := (by injection e310); (first | simp only [add_plain] at hx310_0 | simp only [add_at] at hx310_0 | simp only [Addr.add, Nat.zero_add] at hx310_0 | skip); replace p310 := eq_true p310; replace q310 := eq_true q310; have p43 : 0 ≤ (t309 : Int) := of_decide_eq_true (by first | (with_reducible assumption) | assumption); have q43 : (t309 : Int) < ((x5_2.length : Int) : Int) := of_decide_eq_true (by first | (with_reducible assumption) | assumption); obtain ⟨hx43_0, hf43_0⟩ := Kd.R_celln 0 HO_5.out (t309 : Int) p43 q43; replace p43 := eq_true p43; replace q43 := eq_true q43; obtain ⟨hy54_, hz54_⟩ := Kd.R_celln 0 HO_5.out (t309 : Int) (of_decide_eq_true (by first | (with_reducible assumption) | assumption)) (of_decide_eq_true (by first | (with_reducible assumption) | assumption)); have HP54 := Kd.R_putg HO_5.out (t309 : Int) (wrap64 ((rd x5_1 t297) + 1))) | ((with_reducible refine gate_store (t := 3) (p := 70) rfl ?_); refine store_event (t := 3) (p := 70) (v := ?vo_w55) (w1 := (w53.setCell ⟨go8, (t309 : Int).toNat, none⟩ (.int .i64 (wrap64 ((rd x5_1 t297) + 1))))) ?hg ?ho ?hn ?hr ?_; (case ho => rfl); (case hg => rfl); (case hn => rfl); (case hr => first | (go_simp; done) | (go_simp; rfl)); intro w55 hw; have hg : w53.grownBy w55 (some go8) := (by rw [hw]; exact HP54.2); have hp_ : Kd.R (Kd.int .i64) 3 w55 w.heap.size (fun _ => True) (.slice (some ⟨go8, 0, none⟩) x5_2.length co8) y311 := (by rw [hw, Ny311.out]; exact HP54.1); clear HP54; have n0_ := Aside0.mk (hp_); have n1_ := Aside0.mk (Kd.Q_over' (v := (.slice (some ⟨go8, 0, none⟩) x5_2.length co8)) (by (with_reducible repeat (first | apply Kd.Q_alloc | apply Kd.Q_drewN | apply Kd.Q_drew)); exact HO_6.out) (Kd.R_typed HO_5.out) (by decide) hg); have n2_ := Aside0.mk (Kd.R_over' (v := (.slice (some ⟨go8, 0, none⟩) x5_2.length co8)) (by (with_reducible repeat (first | apply r_a | apply r_d | apply r_e)); exact HO_42.out) (Kd.R_typed HO_5.out) (by decide) hg); have n3_ := Aside0.mk (blk_grown (g := gb283) (o := .cells #[.int .i64 a0_0, .int .i64 a0_1, .slice A0_2 l0_2.length c0_2] 33 (0, 0)) (bK BK283) hg (Kd.R_ne HO_5.out BK283.out (by decide))); have n4_ := Aside0.mk (blk_grown (g := gb306) (o := .cells #[.int .i64 ((rd_T48 t299 x44_2).f0), .int .i64 ((rd_T48 t299 x44_2).f1)] 48 (0, 0)) (bK BK306) hg (Kd.R_ne HO_5.out BK306.out (by decide))); have n5_ := Aside0.mk ((by rw [hw]; exact b_s (HB.out) GB8.out : Below w.heap.size w w55)); clear HO_5; clear HO_6; clear HO_42; clear BK283; clear BK306; clear HB; have HO_5 := n0_; have HO_6 := n1_; have HO_42 := n2_; have BK283 := n3_; have BK306 := n4_; have HB := n5_; clear n0_ n1_ n2_ n3_ n4_ n5_; clear hg hw hp_) | ((with_reducible refine gate_builtin (b := .append) (xs := #[.tmp 71, .tmp 73]) rfl ?_); at_builtin; refine Kd.Q_append Kd.string (w0 := w) w.heap.size rfl (.tmp 71) (.tmp 73) 100 9 (.string ⟨#[]⟩) 16 rfl Try.underlying100 info9 rfl (by decide) (by omega) (.slice (some ad307) x6_2.length co50) x6_2 t308 [.string t308] (fun _ => True) (fun _ => False) rfl rfl ?aP (fun _ hk => hk.elim) ?aF ?aO ?aB ?aS ?aL ?_; (case aP => exact rfl); (case aB => exact (bB HB)); (case aF => exact (fun _ _ => trivial)); (case aO => exact (by (with_reducible repeat (first | apply Kd.Q_alloc | apply Kd.Q_drewN | apply Kd.Q_drew)); exact HO_6.out)); (case aS => exact (below_size (bB HB))); (case aL => have := LMc44.out; omega); intro v313 w56 ho hb hg hat; rw [← Ny312.out] at ho; have n0_ := Aside0.mk (Kd.R_over' (by (with_reducible repeat (first | apply r_a | apply r_d | apply r_e)); exact HO_5.out) (Kd.Q_typed (by (with_reducible repeat (first | apply Kd.Q_alloc | apply Kd.Q_drewN | apply Kd.Q_drew)); exact HO_6.out)) (by decide) hg); have n1_ := Aside0.mk (Kd.R_over' (by (with_reducible repeat (first | apply r_a | apply r_d | apply r_e)); exact HO_42.out) (Kd.Q_typed (by (with_reducible repeat (first | apply Kd.Q_alloc | apply Kd.Q_drewN | apply Kd.Q_drew)); exact HO_6.out)) (by decide) hg); have n2_ := Aside0.mk (blk_grown (g := gb283) (o := .cells #[.int .i64 a0_0, .int .i64 a0_1, .slice A0_2 l0_2.length c0_2] 33 (0, 0)) (bK BK283) hg (Kd.Q_ne HO_6.out BK283.out (by decide))); have n3_ := Aside0.mk (blk_grown (g := gb306) (o := .cells #[.int .i64 ((rd_T48 t299 x44_2).f0), .int .i64 ((rd_T48 t299 x44_2).f1)] 48 (0, 0)) (bK BK306) hg (Kd.Q_ne HO_6.out BK306.out (by decide))); have n4_ := Aside0.mk (hb); have n5_ := Aside0.mk (ho); clear HO_5; clear HO_42; clear BK283; clear BK306; clear HB; clear HO_6; have HO_5 := n0_; have HO_42 := n1_; have BK283 := n2_; have BK306 := n3_; have HB := n4_; have HO314 := n5_; clear n0_ n1_ n2_ n3_ n4_ n5_; clear ho hb hg hat))
  (try simp only [← hl5_2])
  go_roundg k2
  case measure => have := HK1.out; have := HK2.out; omega
  case rel => exact ⟨(y311), (y312), (wrap64 (x44_2 + 1)), (by first | rfl | (simp; done) | (simp [*]; done)), H', ⟨by have := HK1.out; have := HK2.out; omega⟩, ⟨by (try simp only [hl5_1]); (try simp only [hl5_2]); (with_reducible repeat (first | apply r_a | apply r_d | apply r_e)); exact HO_5.out⟩, ⟨by (try simp only [hl5_1]); (try simp only [hl5_2]); (with_reducible repeat (first | apply Kd.Q_alloc | apply Kd.Q_drewN | apply Kd.Q_drew)); exact HO314.out⟩, ⟨by (try simp only [hl5_1]); (try simp only [hl5_2]); (with_reducible repeat (first | apply r_a | apply r_d | apply r_e)); exact Kd.R_mono HO_42.out (fun _ hk => trivial)⟩, ⟨by (try simp only [hl5_1]); (try simp only [hl5_2]); (with_reducible repeat (first | refine g_d ?_ _ | refine g_e ?_ | refine g_a ?_ _)); exact BK283.out⟩, ⟨bB HB⟩⟩
/-! ### impl_FirstKnobs: function 9 -/
mutual
def impl_FirstKnobs.l0 : Nat → ByteArray → ByteArray → List Int → List (S48) → Int → Int → List (List Int) → Option ((List (S48)) × Bool)
  | 0, _, _, _, _, _, _, _ => none
  | k + 1, x1, x2, x8, x9, x316000, x316001, x316002 => if x1.toList = x2.toList then (some (x9, true)) else ((impl_turns.f k (x316002.length : Int)).bind fun t328 => (impl_FirstKnobs.l1 k x1 x2 x8 x9 t328 (t328.length : Int) 0 x316000 x316001 x316002))
def impl_FirstKnobs.l1 : Nat → ByteArray → ByteArray → List Int → List (S48) → List (S48) → Int → Int → Int → Int → List (List Int) → Option ((List (S48)) × Bool)
  | 0, _, _, _, _, _, _, _, _, _, _ => none
  | k + 1, x1, x2, x8, x9, x37, x38, x39, x316000, x316001, x316002 => if x39 < x38 then (if 0 ≤ x39 then (if x39 < (x37.length : Int) then ((impl_Gears_turned.f k x316000 x316001 x316002 x1 ((rd_T48 x37 x39).f0) ((rd_T48 x37 x39).f1)).bind fun t333 => ((impl_Lock_number.f k x316000 x316001 t333).bind fun t334 => (if 0 ≤ t334 then (if t334 < (x8.length : Int) then ((impl_Lock_number.f k x316000 x316001 x1).bind fun t336 => (if 0 ≤ t336 then (if t336 < (x8.length : Int) then (if (rd x8 t334) < (rd x8 t336) then (if x9.length < 8796093022208 then (impl_FirstKnobs.l0 k t333 x2 x8 (x9 ++ [(⟨(rd_T48 x37 x39).f0, (rd_T48 x37 x39).f1⟩ : S48)]) x316000 x316001 x316002) else (none)) else (impl_FirstKnobs.l1 k x1 x2 x8 x9 x37 x38 (wrap64 (x39 + 1)) x316000 x316001 x316002)) else (none)) else (none))) else (none)) else (none)))) else (none)) else (none)) else (impl_FirstKnobs.l0 k x1 x2 x8 x9 x316000 x316001 x316002)
end
def impl_FirstKnobs.f (k : Nat) (a0_0 : Int) (a0_1 : Int) (l0_2 : List (List Int)) (a1 : ByteArray) (a2 : ByteArray) : Option ((List (S48)) × Bool) := (impl_geared.f k a0_0 a0_1 l0_2 (([a1, a2] : List ByteArray))).bind fun t319 => (if t319 = true then ((impl_Gears_far.f k a0_0 a0_1 l0_2 a2).bind fun t320 => ((impl_Lock_number.f k a0_0 a0_1 a1).bind fun t326 => (if 0 ≤ t326 then (if t326 < (t320.length : Int) then (if (rd t320 t326) < 0 then (some (([] : List (S48)), false)) else (impl_FirstKnobs.l0 k a1 a2 t320 (([] : List (S48))) a0_0 a0_1 l0_2)) else (none)) else (none)))) else (some (([] : List (S48)), false)))
theorem impl_FirstKnobs.mono_l : ∀ k, (∀ y0 y1 y2 y3 y4 y5 y6, LeO (impl_FirstKnobs.l0 k y0 y1 y2 y3 y4 y5 y6) (impl_FirstKnobs.l0 (k + 1) y0 y1 y2 y3 y4 y5 y6)) ∧ (∀ y0 y1 y2 y3 y4 y5 y6 y7 y8 y9, LeO (impl_FirstKnobs.l1 k y0 y1 y2 y3 y4 y5 y6 y7 y8 y9) (impl_FirstKnobs.l1 (k + 1) y0 y1 y2 y3 y4 y5 y6 y7 y8 y9))
  | 0 => ⟨fun _ _ _ _ _ _ _ r h => by simp [impl_FirstKnobs.l0] at h, fun _ _ _ _ _ _ _ _ _ _ r h => by simp [impl_FirstKnobs.l1] at h⟩
  | k + 1 => by
    obtain ⟨ih0, ih1⟩ := impl_FirstKnobs.mono_l k
    refine ⟨?_, ?_⟩
    rotate_left
    · intro y0 y1 y2 y3 y4 y5 y6 y7 y8 y9
      unfold impl_FirstKnobs.l1
      repeat' first
      | (with_reducible exact ih0 _ _ _ _ _ _ _)
      | (with_reducible exact ih1 _ _ _ _ _ _ _ _ _ _)
      | (with_reducible exact impl_Gears_far.mono _ _ _ _ _)
      | (with_reducible exact impl_Gears_turned.mono _ _ _ _ _ _ _)
      | (with_reducible exact impl_Lock_number.mono _ _ _ _)
      | (with_reducible exact impl_geared.mono _ _ _ _ _)
      | (with_reducible exact impl_turns.mono _ _)
      | (with_reducible exact LeO.refl _)
      | (with_reducible exact LeO.none _)
      | (with_reducible refine LeO.ite ?_ ?_)
      | (with_reducible refine LeO.bind ?_ (fun _ => ?_))
      | exact ih0 _ _ _ _ _ _ _
      | exact ih1 _ _ _ _ _ _ _ _ _ _
      | exact impl_Gears_far.mono _ _ _ _ _
      | exact impl_Gears_turned.mono _ _ _ _ _ _ _
      | exact impl_Lock_number.mono _ _ _ _
      | exact impl_geared.mono _ _ _ _ _
      | exact impl_turns.mono _ _
      | exact LeO.none _
      | refine LeO.ite ?_ ?_
      | refine LeO.bind ?_ (fun _ => ?_)
    intro y0 y1 y2 y3 y4 y5 y6
    unfold impl_FirstKnobs.l0
    repeat' first
    | (with_reducible exact ih0 _ _ _ _ _ _ _)
    | (with_reducible exact ih1 _ _ _ _ _ _ _ _ _ _)
    | (with_reducible exact impl_Gears_far.mono _ _ _ _ _)
    | (with_reducible exact impl_Gears_turned.mono _ _ _ _ _ _ _)
    | (with_reducible exact impl_Lock_number.mono _ _ _ _)
    | (with_reducible exact impl_geared.mono _ _ _ _ _)
    | (with_reducible exact impl_turns.mono _ _)
    | (with_reducible exact LeO.refl _)
    | (with_reducible exact LeO.none _)
    | (with_reducible refine LeO.ite ?_ ?_)
    | (with_reducible refine LeO.bind ?_ (fun _ => ?_))
    | exact ih0 _ _ _ _ _ _ _
    | exact ih1 _ _ _ _ _ _ _ _ _ _
    | exact impl_Gears_far.mono _ _ _ _ _
    | exact impl_Gears_turned.mono _ _ _ _ _ _ _
    | exact impl_Lock_number.mono _ _ _ _
    | exact impl_geared.mono _ _ _ _ _
    | exact impl_turns.mono _ _
    | exact LeO.none _
    | refine LeO.ite ?_ ?_
    | refine LeO.bind ?_ (fun _ => ?_)
theorem impl_FirstKnobs.mono : ∀ a0 a1 a2 a3 a4 k, LeO (impl_FirstKnobs.f k a0 a1 a2 a3 a4) (impl_FirstKnobs.f (k + 1) a0 a1 a2 a3 a4) := by
  intro a0 a1 a2 a3 a4 k
  obtain ⟨ih0, ih1⟩ := impl_FirstKnobs.mono_l k
  unfold impl_FirstKnobs.f
  repeat' first
      | (with_reducible exact ih0 _ _ _ _ _ _ _)
      | (with_reducible exact ih1 _ _ _ _ _ _ _ _ _ _)
      | (with_reducible exact impl_Gears_far.mono _ _ _ _ _)
      | (with_reducible exact impl_Gears_turned.mono _ _ _ _ _ _ _)
      | (with_reducible exact impl_Lock_number.mono _ _ _ _)
      | (with_reducible exact impl_geared.mono _ _ _ _ _)
      | (with_reducible exact impl_turns.mono _ _)
      | (with_reducible exact LeO.refl _)
      | (with_reducible exact LeO.none _)
      | (with_reducible refine LeO.ite ?_ ?_)
      | (with_reducible refine LeO.bind ?_ (fun _ => ?_))
      | exact ih0 _ _ _ _ _ _ _
      | exact ih1 _ _ _ _ _ _ _ _ _ _
      | exact impl_Gears_far.mono _ _ _ _ _
      | exact impl_Gears_turned.mono _ _ _ _ _ _ _
      | exact impl_Lock_number.mono _ _ _ _
      | exact impl_geared.mono _ _ _ _ _
      | exact impl_turns.mono _ _
      | exact LeO.none _
      | refine LeO.ite ?_ ?_
      | refine LeO.bind ?_ (fun _ => ?_)
def impl_FirstKnobs.T11 : Bool × List (List Nat × List Nat) := (true, [([], []), ([], []), ([1], [1]), ([], []), ([2, 3], [2, 3]), ([0, 4], [0, 4]), ([5], [5]), ([], []), ([], []), ([8], [8]), ([], []), ([9, 10, 4], [9, 10]), ([7, 11], [7, 11]), ([12], [12]), ([6, 13], [6, 13])])
def impl_FirstKnobs.B11 : List Nat := [0, 0, 2, 0, 14, 31, 63, 0, 0, 256, 0, 1822, 3998, 8094, 16383]
theorem impl_FirstKnobs.tab11 : rtab .any (opsOf Try.f9 11) = impl_FirstKnobs.T11 := by kernel_rfl
theorem impl_FirstKnobs.bits11 : waitsOk impl_FirstKnobs.T11.2 impl_FirstKnobs.B11 = true := by kernel_rfl
set_option maxHeartbeats 8000000 in
set_option maxRecDepth 100000 in
theorem impl_FirstKnobs.calls (k : Nat) (a0_0 : Int) (a0_1 : Int) (A0_2 : Option Addr) (c0_2 : Nat) (l0_2 : List (List Int)) (a1 : ByteArray) (a2 : ByteArray) (r1 : List (S48)) (r2 : Bool) (w : World) (hr0_2 : Kd.C (Kd.slice 3 (Kd.int .i64)) w A0_2 l0_2.length l0_2) (hc0_2 : l0_2.length ≤ c0_2) (h : impl_FirstKnobs.f k a0_0 a0_1 l0_2 a1 a2 = some (r1, r2)) :
    Calls Try.prog 9 #[.agg #[.int .i64 a0_0, .int .i64 a0_1, .slice A0_2 l0_2.length c0_2], .string a1, .string a2] w fun e w' => ∃ v0_ : Value, e = .returned (.tuple #[v0_, .bool r2]) ∧ Kd.R k48 48 w' w.heap.size (fun _ => True) v0_ r1 ∧ Below w.heap.size w w' := by
  have hu33 := Try.underlying33
  have hu31 := Try.underlying31
  have hu48 := Try.underlying48
  have HR0_2 := Aside0.mk hr0_2
  have HC0_2 := Aside0.mk hc0_2
  clear hr0_2 hc0_2
  have HB := Aside0.mk (Below.refl w.heap.size w)
  have H : ((impl_geared.f k a0_0 a0_1 l0_2 (([a1, a2] : List ByteArray))).bind fun t319 => (if t319 = true then ((impl_Gears_far.f k a0_0 a0_1 l0_2 a2).bind fun t320 => ((impl_Lock_number.f k a0_0 a0_1 a1).bind fun t326 => (if 0 ≤ t326 then (if t326 < (t320.length : Int) then (if (rd t320 t326) < 0 then (some (([] : List (S48)), false)) else (impl_FirstKnobs.l0 k a1 a2 t320 (([] : List (S48))) a0_0 a0_1 l0_2)) else (none)) else (none)))) else (some (([] : List (S48)), false)))) = some (r1, r2) := h
  clear h
  obtain ⟨y316, hy316⟩ : ∃ y_ : List ByteArray, y_ = (([a1, a2] : List ByteArray)) := ⟨_, rfl⟩
  replace H : ((impl_geared.f k a0_0 a0_1 l0_2 y316).bind fun t319 => (if t319 = true then ((impl_Gears_far.f k a0_0 a0_1 l0_2 a2).bind fun t320 => ((impl_Lock_number.f k a0_0 a0_1 a1).bind fun t326 => (if 0 ≤ t326 then (if t326 < (t320.length : Int) then (if (rd t320 t326) < 0 then (some (([] : List (S48)), false)) else (impl_FirstKnobs.l0 k a1 a2 t320 (([] : List (S48))) a0_0 a0_1 l0_2)) else (none)) else (none)))) else (some (([] : List (S48)), false)))) = some (r1, r2) := by first | (rw [hy316]; with_reducible exact H) | (have H2_ := (Option.bind_some _ _).symm.trans H; rw [hy316]; with_reducible exact H2_) | (have H2_ := (Option.bind_some _ _).symm.trans H; with_reducible exact H2_) | with_reducible exact H | (rw [hy316]; exact H) | exact H
  have Ny316 := Aside0.mk hy316
  clear hy316
  replace H := Option.bind_eq_some_iff.mp H
  obtain ⟨t319, A40, H⟩ := H
  try dsimp only at H
  have A4 := Aside0.mk A40
  clear A40
  by_cases c5 : t319 = true
  rotate_left
  · replace c5 := Bool.eq_false_iff.mpr c5
    subst c5
    rw [if_neg (show ¬ (false = true) by decide)] at H
    simp only [Option.some.injEq, Prod.mk.injEq] at H
    obtain ⟨rfl, rfl⟩ := H
    go_enter Try.func9, Try.ntmps9
    go_wp2_with (first | ((with_reducible refine gate_dst (N := 3) rfl ?_); refine box_event ?hg (N := 3) ?hd (cs := #[.int .i64 a0_0, .int .i64 a0_1, .slice A0_2 l0_2.length c0_2]) (t := 33) ?hr ?_; (case hd => rfl); (case hg => rfl); (case hr => first | (go_simp; done) | (go_simp; rfl)); intro gb315 hg w72 hbox hb; have n0_ := bsx hb HB; have n1_ := Aside0.mk (hbox); have n2_ := gwx hg HB; have n3_ := n2_; clear HB; have HB := n0_; have BK315 := n1_; have GW315 := n2_; have GE315 := n3_; clear n0_ n1_ n2_ n3_; clear hb hbox hg; have hcz73_0 : w72.cell? ⟨gb315, 0, none⟩ = some (.int .i64 a0_0) := (blk_cell BK315.out 0).trans rfl; have hcz73_1 : w72.cell? ⟨gb315, 1, none⟩ = some (.int .i64 a0_1) := (blk_cell BK315.out 1).trans rfl; have hcz73_2 : w72.cell? ⟨gb315, 2, none⟩ = some (.slice A0_2 l0_2.length c0_2) := (blk_cell BK315.out 2).trans rfl; have hfz73_0 := blk_frozen BK315.out 0; have hfz73_1 := blk_frozen BK315.out 1; have hfz73_2 := blk_frozen BK315.out 2) | ((with_reducible refine gate_dst (N := 16) rfl ?_); refine Kd.R_lit Kd.string _ 9 ?hg (N := 16) ?hd (xs := ([a1, a2] : List ByteArray)) (inner := [.string a1, .string a2]) (ok := fun _ => True) (okp := fun _ => True) ?hr ?hp (fun _ hk => hk) trivial (Below.refl _ _) (Nat.le_refl _) (by simp) ?_; (case hd => rfl); (case hg => rfl); (case hr => first | (go_simp; done) | (go_simp; rfl)); (case hp => exact (Reps.one (show Kd.M Kd.string _ _ _ a1 [.string a1] from rfl) (Reps.one (show Kd.M Kd.string _ _ _ a2 [.string a2] from rfl) (Reps.none _ _)))); intro v317 w74 ho75 hb hg_ hnew_; clear hg_ hnew_; (first | rw [← Ny316.out] at ho75 | (simp only [Int.reduceToNat] at ho75; rw [← Ny316.out] at ho75)); have n0_ := Aside0.mk (Kd.R_lower ho75 (below_size (bB HB))); replace BK315 := bbx hb BK315; have n2_ := bsx hb HB; clear HB; have HO318 := n0_; have HB := n2_; clear n0_ n2_; clear hb ho75; obtain ⟨Ao76, co76, eo76⟩ := Kd.R_slice HO318.out; subst eo76) | ((with_reducible refine gate_callee (f := 40) rfl ?_); refine goesL_ (some 17) rfl rfl Try.func40 (by kernel_rfl) rfl #[.agg #[.int .i64 a0_0, .int .i64 a0_1, .slice A0_2 l0_2.length c0_2], .slice Ao76 y316.length co76] rfl (by (try simp only [m_1, m_2, m_3]); first | done | rfl | (simp only [m_4, m_5]; rfl)) ?_; (with_reducible refine (impl_geared.calls k a0_0 a0_1 _ _ l0_2 _ _ y316 false _ ?side1 ?side2 ?side3 ?side4 A4.out).mono ?_); (case side1 => repeat (first | exact (Kd.C_below HR0_2.out HB.out) | (with_reducible refine Kd.C_alloc ?_ _) | (with_reducible refine Kd.C_drewN ?_ _) | (with_reducible refine Kd.C_drew ?_))); (case side2 => exact HC0_2.out); (case side3 => repeat (first | exact (Kd.R_reads' HO318.out).2.2 | (with_reducible refine Kd.C_alloc ?_ _) | (with_reducible refine Kd.C_drewN ?_ _) | (with_reducible refine Kd.C_drew ?_))); (case side4 => exact (Kd.R_reads' HO318.out).2.1); rintro e w77 ⟨rfl, hb⟩; refine ⟨_, rfl, ?_⟩; have n0_ := Aside0.mk (Kd.R_below (by (with_reducible repeat (first | apply r_a | apply r_d | apply r_e)); exact HO318.out) hb); replace BK315 := bbx hb BK315; replace HB := bsx hb HB; clear HO318; have HO318 := n0_; clear n0_; (try clear hb); (try clear hb2); (try clear hk); (try clear hi)))
    go_ret2
    exact ⟨_, by first | rfl | (simp [errW_none, errW_some] <;> rfl) | (simp [*, errW_none, errW_some] <;> rfl), by first | exact Kd.R_nil _ _ _ _ _ | exact Kd.N_nil _ _ _ _ _ | exact Kd.V_nil _ _ _ _ _ | exact Kd.Q_nil _ _ _ _ _ | exact Kd.S_nil _ _ _ _ _, bB HB⟩

  subst c5
  rw [if_pos rfl] at H
  replace H := Option.bind_eq_some_iff.mp H
  obtain ⟨t320, A60, H⟩ := H
  try dsimp only at H
  have A6 := Aside0.mk A60
  clear A60
  obtain ⟨y323, hy323⟩ : ∃ y_ : List (S48), y_ = (([] : List (S48))) := ⟨_, rfl⟩
  replace H : ((impl_Lock_number.f k a0_0 a0_1 a1).bind fun t326 => (if 0 ≤ t326 then (if t326 < (t320.length : Int) then (if (rd t320 t326) < 0 then (some (([] : List (S48)), false)) else (impl_FirstKnobs.l0 k a1 a2 t320 y323 a0_0 a0_1 l0_2)) else (none)) else (none))) = some (r1, r2) := by first | (rw [hy323]; with_reducible exact H) | (have H2_ := (Option.bind_some _ _).symm.trans H; rw [hy323]; with_reducible exact H2_) | (have H2_ := (Option.bind_some _ _).symm.trans H; with_reducible exact H2_) | with_reducible exact H | (rw [hy323]; exact H) | exact H
  have Ny323 := Aside0.mk hy323
  clear hy323
  replace H := Option.bind_eq_some_iff.mp H
  obtain ⟨t326, A70, H⟩ := H
  try dsimp only at H
  have A7 := Aside0.mk A70
  clear A70
  by_cases c8 : 0 ≤ t326
  rotate_left
  · rw [if_neg c8] at H
    exact absurd H (by simp)
  rw [if_pos c8] at H
  have c8b0 : decide (0 ≤ t326) = true := decide_eq_true c8
  clear c8
  by_cases c9 : t326 < (t320.length : Int)
  rotate_left
  · rw [if_neg c9] at H
    exact absurd H (by simp)
  rw [if_pos c9] at H
  have c9b0 : decide (t326 < (t320.length : Int)) = true := decide_eq_true c9
  clear c9
  by_cases c10 : (rd t320 t326) < 0
  · rw [if_pos c10] at H
    have c10b0 : decide ((rd t320 t326) < 0) = true := decide_eq_true c10
    clear c10
    simp only [Option.some.injEq, Prod.mk.injEq] at H
    obtain ⟨rfl, rfl⟩ := H
    go_enter Try.func9, Try.ntmps9
    go_wp2_with (first | ((with_reducible refine gate_dst (N := 3) rfl ?_); refine box_event ?hg (N := 3) ?hd (cs := #[.int .i64 a0_0, .int .i64 a0_1, .slice A0_2 l0_2.length c0_2]) (t := 33) ?hr ?_; (case hd => rfl); (case hg => rfl); (case hr => first | (go_simp; done) | (go_simp; rfl)); intro gb315 hg w11 hbox hb; have n0_ := bsx hb HB; have n1_ := Aside0.mk (hbox); have n2_ := gwx hg HB; have n3_ := n2_; clear HB; have HB := n0_; have BK315 := n1_; have GW315 := n2_; have GE315 := n3_; clear n0_ n1_ n2_ n3_; clear hb hbox hg; have hcz12_0 : w11.cell? ⟨gb315, 0, none⟩ = some (.int .i64 a0_0) := (blk_cell BK315.out 0).trans rfl; have hcz12_1 : w11.cell? ⟨gb315, 1, none⟩ = some (.int .i64 a0_1) := (blk_cell BK315.out 1).trans rfl; have hcz12_2 : w11.cell? ⟨gb315, 2, none⟩ = some (.slice A0_2 l0_2.length c0_2) := (blk_cell BK315.out 2).trans rfl; have hfz12_0 := blk_frozen BK315.out 0; have hfz12_1 := blk_frozen BK315.out 1; have hfz12_2 := blk_frozen BK315.out 2) | ((with_reducible refine gate_dst (N := 16) rfl ?_); refine Kd.R_lit Kd.string _ 9 ?hg (N := 16) ?hd (xs := ([a1, a2] : List ByteArray)) (inner := [.string a1, .string a2]) (ok := fun _ => True) (okp := fun _ => True) ?hr ?hp (fun _ hk => hk) trivial (Below.refl _ _) (Nat.le_refl _) (by simp) ?_; (case hd => rfl); (case hg => rfl); (case hr => first | (go_simp; done) | (go_simp; rfl)); (case hp => exact (Reps.one (show Kd.M Kd.string _ _ _ a1 [.string a1] from rfl) (Reps.one (show Kd.M Kd.string _ _ _ a2 [.string a2] from rfl) (Reps.none _ _)))); intro v317 w13 ho14 hb hg_ hnew_; clear hg_ hnew_; (first | rw [← Ny316.out] at ho14 | (simp only [Int.reduceToNat] at ho14; rw [← Ny316.out] at ho14)); have n0_ := Aside0.mk (Kd.R_lower ho14 (below_size (bB HB))); replace BK315 := bbx hb BK315; have n2_ := bsx hb HB; clear HB; have HO318 := n0_; have HB := n2_; clear n0_ n2_; clear hb ho14; obtain ⟨Ao15, co15, eo15⟩ := Kd.R_slice HO318.out; subst eo15) | ((with_reducible refine gate_callee (f := 40) rfl ?_); refine goesL_ (some 17) rfl rfl Try.func40 (by kernel_rfl) rfl #[.agg #[.int .i64 a0_0, .int .i64 a0_1, .slice A0_2 l0_2.length c0_2], .slice Ao15 y316.length co15] rfl (by (try simp only [m_1, m_2, m_3]); first | done | rfl | (simp only [m_4, m_5]; rfl)) ?_; (with_reducible refine (impl_geared.calls k a0_0 a0_1 _ _ l0_2 _ _ y316 true _ ?side1 ?side2 ?side3 ?side4 A4.out).mono ?_); (case side1 => repeat (first | exact (Kd.C_below HR0_2.out HB.out) | (with_reducible refine Kd.C_alloc ?_ _) | (with_reducible refine Kd.C_drewN ?_ _) | (with_reducible refine Kd.C_drew ?_))); (case side2 => exact HC0_2.out); (case side3 => repeat (first | exact (Kd.R_reads' HO318.out).2.2 | (with_reducible refine Kd.C_alloc ?_ _) | (with_reducible refine Kd.C_drewN ?_ _) | (with_reducible refine Kd.C_drew ?_))); (case side4 => exact (Kd.R_reads' HO318.out).2.1); rintro e w16 ⟨rfl, hb⟩; refine ⟨_, rfl, ?_⟩; have n0_ := Aside0.mk (Kd.R_below (by (with_reducible repeat (first | apply r_a | apply r_d | apply r_e)); exact HO318.out) hb); replace BK315 := bbx hb BK315; replace HB := bsx hb HB; clear HO318; have HO318 := n0_; clear n0_; (try clear hb); (try clear hb2); (try clear hk); (try clear hi); have hcz17_0 : w16.cell? ⟨gb315, 0, none⟩ = some (.int .i64 a0_0) := (blk_cell BK315.out 0).trans rfl; have hcz17_1 : w16.cell? ⟨gb315, 1, none⟩ = some (.int .i64 a0_1) := (blk_cell BK315.out 1).trans rfl; have hcz17_2 : w16.cell? ⟨gb315, 2, none⟩ = some (.slice A0_2 l0_2.length c0_2) := (blk_cell BK315.out 2).trans rfl; have hfz17_0 := blk_frozen BK315.out 0; have hfz17_1 := blk_frozen BK315.out 1; have hfz17_2 := blk_frozen BK315.out 2) | ((with_reducible refine gate_callee (f := 41) rfl ?_); refine goesL_ (some 21) rfl rfl Try.func41 (by kernel_rfl) rfl #[.agg #[.int .i64 a0_0, .int .i64 a0_1, .slice A0_2 l0_2.length c0_2], .string a2] rfl (by (try simp only [m_1, m_2, m_3]); first | done | rfl | (simp only [m_4, m_5]; rfl)) ?_; (with_reducible refine (impl_Gears_far.calls k a0_0 a0_1 _ _ l0_2 a2 t320 _ ?side1 ?side2 A6.out).mono ?_); (case side1 => repeat (first | exact (Kd.C_below HR0_2.out HB.out) | (with_reducible refine Kd.C_alloc ?_ _) | (with_reducible refine Kd.C_drewN ?_ _) | (with_reducible refine Kd.C_drew ?_))); (case side2 => exact HC0_2.out); rintro e w18 ⟨v321, rfl, ho0, hb⟩; refine ⟨_, rfl, ?_⟩; have n0_ := Aside0.mk (Kd.R_below (by (with_reducible repeat (first | apply r_a | apply r_d | apply r_e)); exact HO318.out) hb); have n1_ := Aside0.mk (Kd.R_lower ho0 (below_size (bB HB))); replace BK315 := bbx hb BK315; have n3_ := bsx hb HB; clear HO318; clear HB; have HO318 := n0_; have HO322 := n1_; have HB := n3_; clear n0_ n1_ n3_; (try clear hb); (try clear hb2); (try clear hk); (try clear hi); (try clear ho0)) | ((with_reducible refine gate_dst (N := 22) rfl ?_); refine Kd.R_lit k48 _ 48 ?hg (N := 22) ?hd (xs := ([] : List (S48))) (inner := []) (ok := fun _ => True) (okp := fun _ => True) ?hr ?hp (fun _ hk => hk) trivial (Below.refl _ _) (Nat.le_refl _) (by simp) ?_; (case hd => rfl); (case hg => rfl); (case hr => first | (go_simp; done) | (go_simp; rfl)); (case hp => exact (Reps.none _ _)); intro v324 w19 ho20 hb hg_ hnew_; clear hg_ hnew_; (first | rw [← Ny323.out] at ho20 | (simp only [Int.reduceToNat] at ho20; rw [← Ny323.out] at ho20)); have n0_ := Aside0.mk (Kd.R_below (by (with_reducible repeat (first | apply r_a | apply r_d | apply r_e)); exact HO318.out) hb); have n1_ := Aside0.mk (Kd.R_below (by (with_reducible repeat (first | apply r_a | apply r_d | apply r_e)); exact HO322.out) hb); have n2_ := Aside0.mk (Kd.R_lower ho20 (below_size (bB HB))); replace BK315 := bbx hb BK315; have n4_ := bsx hb HB; clear HO318; clear HO322; clear HB; have HO318 := n0_; have HO322 := n1_; have HO325 := n2_; have HB := n4_; clear n0_ n1_ n2_ n4_; clear hb ho20; have hcz21_0 : w19.cell? ⟨gb315, 0, none⟩ = some (.int .i64 a0_0) := (blk_cell BK315.out 0).trans rfl; have hcz21_1 : w19.cell? ⟨gb315, 1, none⟩ = some (.int .i64 a0_1) := (blk_cell BK315.out 1).trans rfl; have hcz21_2 : w19.cell? ⟨gb315, 2, none⟩ = some (.slice A0_2 l0_2.length c0_2) := (blk_cell BK315.out 2).trans rfl; have hfz21_0 := blk_frozen BK315.out 0; have hfz21_1 := blk_frozen BK315.out 1; have hfz21_2 := blk_frozen BK315.out 2) | ((with_reducible refine gate_callee (f := 42) rfl ?_); refine goesL_ (some 27) rfl rfl Try.func42 (by kernel_rfl) rfl #[.agg #[.int .i64 a0_0, .int .i64 a0_1], .string a1] rfl (by (try simp only [m_1, m_2, m_3]); first | done | rfl | (simp only [m_4, m_5]; rfl)) ?_; (with_reducible refine (impl_Lock_number.calls k a0_0 a0_1 a1 t326 _ A7.out).mono ?_); rintro e w22 ⟨rfl, hb⟩; refine ⟨_, rfl, ?_⟩; have n0_ := Aside0.mk (Kd.R_below (by (with_reducible repeat (first | apply r_a | apply r_d | apply r_e)); exact HO318.out) hb); have n1_ := Aside0.mk (Kd.R_below (by (with_reducible repeat (first | apply r_a | apply r_d | apply r_e)); exact HO322.out) hb); have n2_ := Aside0.mk (Kd.R_below (by (with_reducible repeat (first | apply r_a | apply r_d | apply r_e)); exact HO325.out) hb); replace BK315 := bbx hb BK315; replace HB := bsx hb HB; clear HO318; clear HO322; clear HO325; have HO318 := n0_; have HO322 := n1_; have HO325 := n2_; clear n0_ n1_ n2_; (try clear hb); (try clear hb2); (try clear hk); (try clear hi); obtain ⟨Ao23, co23, eo23⟩ := Kd.R_slice HO322.out; subst eo23; have p327 : 0 ≤ (t326 : Int) := of_decide_eq_true (by first | (with_reducible assumption) | assumption); have q327 : t326 < (t320.length : Int) := of_decide_eq_true (by first | (with_reducible assumption) | assumption); obtain ⟨ad327, e327, hx327_0⟩ := Kd.at_int (Kd.R_reads' HO322.out).2.2 t326 p327 q327; cases e327; replace p327 := eq_true p327; replace q327 := eq_true q327))
    go_ret2
    exact ⟨_, by first | rfl | (simp [errW_none, errW_some] <;> rfl) | (simp [*, errW_none, errW_some] <;> rfl), by first | exact Kd.R_nil _ _ _ _ _ | exact Kd.N_nil _ _ _ _ _ | exact Kd.V_nil _ _ _ _ _ | exact Kd.Q_nil _ _ _ _ _ | exact Kd.S_nil _ _ _ _ _, bB HB⟩
  rw [if_neg c10] at H
  have c10b0 : decide ((rd t320 t326) < 0) = false := decide_eq_false c10
  clear c10
  have H' := Aside0.mk H
  clear H
  go_enter Try.func9, Try.ntmps9
  go_wp2_with (first | ((with_reducible refine gate_dst (N := 3) rfl ?_); refine box_event ?hg (N := 3) ?hd (cs := #[.int .i64 a0_0, .int .i64 a0_1, .slice A0_2 l0_2.length c0_2]) (t := 33) ?hr ?_; (case hd => rfl); (case hg => rfl); (case hr => first | (go_simp; done) | (go_simp; rfl)); intro gb315 hg w24 hbox hb; have n0_ := bsx hb HB; have n1_ := Aside0.mk (hbox); have n2_ := gwx hg HB; have n3_ := n2_; clear HB; have HB := n0_; have BK315 := n1_; have GW315 := n2_; have GE315 := n3_; clear n0_ n1_ n2_ n3_; clear hb hbox hg; have hcz25_0 : w24.cell? ⟨gb315, 0, none⟩ = some (.int .i64 a0_0) := (blk_cell BK315.out 0).trans rfl; have hcz25_1 : w24.cell? ⟨gb315, 1, none⟩ = some (.int .i64 a0_1) := (blk_cell BK315.out 1).trans rfl; have hcz25_2 : w24.cell? ⟨gb315, 2, none⟩ = some (.slice A0_2 l0_2.length c0_2) := (blk_cell BK315.out 2).trans rfl; have hfz25_0 := blk_frozen BK315.out 0; have hfz25_1 := blk_frozen BK315.out 1; have hfz25_2 := blk_frozen BK315.out 2) | ((with_reducible refine gate_dst (N := 16) rfl ?_); refine Kd.R_lit Kd.string _ 9 ?hg (N := 16) ?hd (xs := ([a1, a2] : List ByteArray)) (inner := [.string a1, .string a2]) (ok := fun _ => True) (okp := fun _ => True) ?hr ?hp (fun _ hk => hk) trivial (Below.refl _ _) (Nat.le_refl _) (by simp) ?_; (case hd => rfl); (case hg => rfl); (case hr => first | (go_simp; done) | (go_simp; rfl)); (case hp => exact (Reps.one (show Kd.M Kd.string _ _ _ a1 [.string a1] from rfl) (Reps.one (show Kd.M Kd.string _ _ _ a2 [.string a2] from rfl) (Reps.none _ _)))); intro v317 w26 ho27 hb hg_ hnew_; clear hg_ hnew_; (first | rw [← Ny316.out] at ho27 | (simp only [Int.reduceToNat] at ho27; rw [← Ny316.out] at ho27)); have n0_ := Aside0.mk (Kd.R_lower ho27 (below_size (bB HB))); replace BK315 := bbx hb BK315; have n2_ := bsx hb HB; clear HB; have HO318 := n0_; have HB := n2_; clear n0_ n2_; clear hb ho27; obtain ⟨Ao28, co28, eo28⟩ := Kd.R_slice HO318.out; subst eo28) | ((with_reducible refine gate_callee (f := 40) rfl ?_); refine goesL_ (some 17) rfl rfl Try.func40 (by kernel_rfl) rfl #[.agg #[.int .i64 a0_0, .int .i64 a0_1, .slice A0_2 l0_2.length c0_2], .slice Ao28 y316.length co28] rfl (by (try simp only [m_1, m_2, m_3]); first | done | rfl | (simp only [m_4, m_5]; rfl)) ?_; (with_reducible refine (impl_geared.calls k a0_0 a0_1 _ _ l0_2 _ _ y316 true _ ?side1 ?side2 ?side3 ?side4 A4.out).mono ?_); (case side1 => repeat (first | exact (Kd.C_below HR0_2.out HB.out) | (with_reducible refine Kd.C_alloc ?_ _) | (with_reducible refine Kd.C_drewN ?_ _) | (with_reducible refine Kd.C_drew ?_))); (case side2 => exact HC0_2.out); (case side3 => repeat (first | exact (Kd.R_reads' HO318.out).2.2 | (with_reducible refine Kd.C_alloc ?_ _) | (with_reducible refine Kd.C_drewN ?_ _) | (with_reducible refine Kd.C_drew ?_))); (case side4 => exact (Kd.R_reads' HO318.out).2.1); rintro e w29 ⟨rfl, hb⟩; refine ⟨_, rfl, ?_⟩; have n0_ := Aside0.mk (Kd.R_below (by (with_reducible repeat (first | apply r_a | apply r_d | apply r_e)); exact HO318.out) hb); replace BK315 := bbx hb BK315; replace HB := bsx hb HB; clear HO318; have HO318 := n0_; clear n0_; (try clear hb); (try clear hb2); (try clear hk); (try clear hi); have hcz30_0 : w29.cell? ⟨gb315, 0, none⟩ = some (.int .i64 a0_0) := (blk_cell BK315.out 0).trans rfl; have hcz30_1 : w29.cell? ⟨gb315, 1, none⟩ = some (.int .i64 a0_1) := (blk_cell BK315.out 1).trans rfl; have hcz30_2 : w29.cell? ⟨gb315, 2, none⟩ = some (.slice A0_2 l0_2.length c0_2) := (blk_cell BK315.out 2).trans rfl; have hfz30_0 := blk_frozen BK315.out 0; have hfz30_1 := blk_frozen BK315.out 1; have hfz30_2 := blk_frozen BK315.out 2) | ((with_reducible refine gate_callee (f := 41) rfl ?_); refine goesL_ (some 21) rfl rfl Try.func41 (by kernel_rfl) rfl #[.agg #[.int .i64 a0_0, .int .i64 a0_1, .slice A0_2 l0_2.length c0_2], .string a2] rfl (by (try simp only [m_1, m_2, m_3]); first | done | rfl | (simp only [m_4, m_5]; rfl)) ?_; (with_reducible refine (impl_Gears_far.calls k a0_0 a0_1 _ _ l0_2 a2 t320 _ ?side1 ?side2 A6.out).mono ?_); (case side1 => repeat (first | exact (Kd.C_below HR0_2.out HB.out) | (with_reducible refine Kd.C_alloc ?_ _) | (with_reducible refine Kd.C_drewN ?_ _) | (with_reducible refine Kd.C_drew ?_))); (case side2 => exact HC0_2.out); rintro e w31 ⟨v321, rfl, ho0, hb⟩; refine ⟨_, rfl, ?_⟩; have n0_ := Aside0.mk (Kd.R_below (by (with_reducible repeat (first | apply r_a | apply r_d | apply r_e)); exact HO318.out) hb); have n1_ := Aside0.mk (Kd.R_lower ho0 (below_size (bB HB))); replace BK315 := bbx hb BK315; have n3_ := bsx hb HB; clear HO318; clear HB; have HO318 := n0_; have HO322 := n1_; have HB := n3_; clear n0_ n1_ n3_; (try clear hb); (try clear hb2); (try clear hk); (try clear hi); (try clear ho0)) | ((with_reducible refine gate_dst (N := 22) rfl ?_); refine Kd.R_lit k48 _ 48 ?hg (N := 22) ?hd (xs := ([] : List (S48))) (inner := []) (ok := fun _ => True) (okp := fun _ => True) ?hr ?hp (fun _ hk => hk) trivial (Below.refl _ _) (Nat.le_refl _) (by simp) ?_; (case hd => rfl); (case hg => rfl); (case hr => first | (go_simp; done) | (go_simp; rfl)); (case hp => exact (Reps.none _ _)); intro v324 w32 ho33 hb hg_ hnew_; clear hg_ hnew_; (first | rw [← Ny323.out] at ho33 | (simp only [Int.reduceToNat] at ho33; rw [← Ny323.out] at ho33)); have n0_ := Aside0.mk (Kd.R_below (by (with_reducible repeat (first | apply r_a | apply r_d | apply r_e)); exact HO318.out) hb); have n1_ := Aside0.mk (Kd.R_below (by (with_reducible repeat (first | apply r_a | apply r_d | apply r_e)); exact HO322.out) hb); have n2_ := Aside0.mk (Kd.R_lower ho33 (below_size (bB HB))); replace BK315 := bbx hb BK315; have n4_ := bsx hb HB; clear HO318; clear HO322; clear HB; have HO318 := n0_; have HO322 := n1_; have HO325 := n2_; have HB := n4_; clear n0_ n1_ n2_ n4_; clear hb ho33; have hcz34_0 : w32.cell? ⟨gb315, 0, none⟩ = some (.int .i64 a0_0) := (blk_cell BK315.out 0).trans rfl; have hcz34_1 : w32.cell? ⟨gb315, 1, none⟩ = some (.int .i64 a0_1) := (blk_cell BK315.out 1).trans rfl; have hcz34_2 : w32.cell? ⟨gb315, 2, none⟩ = some (.slice A0_2 l0_2.length c0_2) := (blk_cell BK315.out 2).trans rfl; have hfz34_0 := blk_frozen BK315.out 0; have hfz34_1 := blk_frozen BK315.out 1; have hfz34_2 := blk_frozen BK315.out 2) | ((with_reducible refine gate_callee (f := 42) rfl ?_); refine goesL_ (some 27) rfl rfl Try.func42 (by kernel_rfl) rfl #[.agg #[.int .i64 a0_0, .int .i64 a0_1], .string a1] rfl (by (try simp only [m_1, m_2, m_3]); first | done | rfl | (simp only [m_4, m_5]; rfl)) ?_; (with_reducible refine (impl_Lock_number.calls k a0_0 a0_1 a1 t326 _ A7.out).mono ?_); rintro e w35 ⟨rfl, hb⟩; refine ⟨_, rfl, ?_⟩; have n0_ := Aside0.mk (Kd.R_below (by (with_reducible repeat (first | apply r_a | apply r_d | apply r_e)); exact HO318.out) hb); have n1_ := Aside0.mk (Kd.R_below (by (with_reducible repeat (first | apply r_a | apply r_d | apply r_e)); exact HO322.out) hb); have n2_ := Aside0.mk (Kd.R_below (by (with_reducible repeat (first | apply r_a | apply r_d | apply r_e)); exact HO325.out) hb); replace BK315 := bbx hb BK315; replace HB := bsx hb HB; clear HO318; clear HO322; clear HO325; have HO318 := n0_; have HO322 := n1_; have HO325 := n2_; clear n0_ n1_ n2_; (try clear hb); (try clear hb2); (try clear hk); (try clear hi); obtain ⟨Ao36, co36, eo36⟩ := Kd.R_slice HO322.out; subst eo36; have p327 : 0 ≤ (t326 : Int) := of_decide_eq_true (by first | (with_reducible assumption) | assumption); have q327 : t326 < (t320.length : Int) := of_decide_eq_true (by first | (with_reducible assumption) | assumption); obtain ⟨ad327, e327, hx327_0⟩ := Kd.at_int (Kd.R_reads' HO322.out).2.2 t326 p327 q327; cases e327; replace p327 := eq_true p327; replace q327 := eq_true q327))
  go_loopg [1, 9] k (fun kq v1 v9 w' => ∃ (x1_1 : ByteArray) (x9_1 : List (S48)), v1 = .string x1_1 ∧ Aside0 (impl_FirstKnobs.l0 kq x1_1 a2 t320 x9_1 a0_0 a0_1 l0_2 = some (r1, r2)) ∧ Aside0 (kq ≤ k) ∧ Aside0 (Kd.R (Kd.int .i64) 3 w' w.heap.size (fun _ => True) (.slice (some ad327) t320.length co36) t320) ∧ Aside0 (Kd.R k48 48 w' w.heap.size (fun _ => True) v9 x9_1) ∧ Aside0 (w'.heap[gb315]? = some (.cells #[.int .i64 a0_0, .int .i64 a0_1, (.slice A0_2 l0_2.length c0_2)] 33 (0, 0))) ∧ Aside0 (Below w.heap.size w w'))
  case atStart => refine ⟨(a1), (y323), (by first | rfl | (simp; done) | (simp [*]; done)), H', ⟨Nat.le_refl _⟩, ⟨?_⟩, ⟨?_⟩, ⟨?_⟩, ⟨bB HB⟩⟩ <;> (with_reducible repeat (first | refine g_d ?_ _ | refine g_e ?_ | refine g_a ?_ _ | apply r_a | apply r_d | apply r_e)) <;> first | exact BK315.out | exact HO322.out | exact HO325.out
  clear H'
  try clear c5
  try clear c8
  try clear c8b0
  try clear c9
  try clear c9b0
  try clear c10
  try clear c10b0
  try clear hcz25_0
  try clear hcz25_1
  try clear hcz25_2
  try clear hcz30_0
  try clear hcz30_1
  try clear hcz30_2
  try clear hcz34_0
  try clear hcz34_1
  try clear hcz34_2
  try clear hfz25_0
  try clear hfz25_1
  try clear hfz25_2
  try clear hfz30_0
  try clear hfz30_1
  try clear hfz30_2
  try clear hfz34_0
  try clear hfz34_1
  try clear hfz34_2
  try clear hx327_0
  try clear p327
  try clear q327
  obtain ⟨x1_1, x9_1, rfl, HA, HK1, HO_8, HO_9, BK315, HB⟩ := hrel
  rcases gk with _ | k1
  · exact absurd HA.out (by simp [impl_FirstKnobs.l0])
  have H := HA.out
  clear HA
  simp only [impl_FirstKnobs.l0] at H
  by_cases c37 : x1_1.toList = a2.toList
  · rw [if_pos c37] at H
    have c37b0 : (x1_1.toList == a2.toList) = true := beq_iff_eq.mpr c37
    have c37b1 : (x1_1.toList != a2.toList) = false := bne_eq_false_iff_eq.mpr c37
    clear c37
    simp only [Option.some.injEq, Prod.mk.injEq] at H
    obtain ⟨rfl, rfl⟩ := H
    go_wp2
    go_ret2
    exact ⟨_, by first | rfl | (simp [errW_none, errW_some] <;> rfl) | (simp [*, errW_none, errW_some] <;> rfl), by (with_reducible repeat (first | apply r_a | apply r_d | apply r_e)); exact HO_9.out, bB HB⟩
  rw [if_neg c37] at H
  have c37b0 : (x1_1.toList == a2.toList) = false := beq_eq_false_iff_ne.mpr c37
  have c37b1 : (x1_1.toList != a2.toList) = true := bne_iff_ne.mpr c37
  replace H := Option.bind_eq_some_iff.mp H
  obtain ⟨t328, A380, H⟩ := H
  try dsimp only at H
  have A38 := Aside0.mk A380
  clear A380
  have H' := Aside0.mk H
  clear H
  have hcz39_0 : wr.cell? ⟨gb315, 0, none⟩ = some (.int .i64 a0_0) := (blk_cell BK315.out 0).trans rfl
  have hcz39_1 : wr.cell? ⟨gb315, 1, none⟩ = some (.int .i64 a0_1) := (blk_cell BK315.out 1).trans rfl
  have hcz39_2 : wr.cell? ⟨gb315, 2, none⟩ = some (.slice A0_2 l0_2.length c0_2) := (blk_cell BK315.out 2).trans rfl
  have hfz39_0 := blk_frozen BK315.out 0
  have hfz39_1 := blk_frozen BK315.out 1
  have hfz39_2 := blk_frozen BK315.out 2
  go_wp2_with (first | ((with_reducible refine gate_callee (f := 43) rfl ?_); refine goesL_ (some 37) rfl rfl Try.func43 (by kernel_rfl) rfl #[.int .i64 (l0_2.length : Int)] rfl (by (try simp only [m_1, m_2, m_3]); first | done | rfl | (simp only [m_4, m_5]; rfl)) ?_; (with_reducible refine (impl_turns.calls k1 (l0_2.length : Int) t328 _ A38.out).mono ?_); rintro e w40 ⟨v329, rfl, ho0, hb⟩; refine ⟨_, rfl, ?_⟩; have n0_ := Aside0.mk (Kd.R_below (by (with_reducible repeat (first | apply r_a | apply r_d | apply r_e)); exact HO_8.out) hb); have n1_ := Aside0.mk (Kd.R_elder' (by (with_reducible repeat (first | apply r_a | apply r_d | apply r_e)); exact HO_9.out) (Kd.R_base ho0) hb); have n2_ := Aside0.mk (Kd.R_lower (Kd.R_new' ho0 (Kd.R_lt (by (with_reducible repeat (first | apply r_a | apply r_d | apply r_e)); exact HO_9.out))) (below_size (bB HB))); replace BK315 := bbx hb BK315; have n4_ := bsx hb HB; clear HO_8; clear HO_9; clear HB; have HO_8 := n0_; have HO_9 := n1_; have HO330 := n2_; have HB := n4_; clear n0_ n1_ n2_ n4_; (try clear hb); (try clear hb2); (try clear hk); (try clear hi); (try clear ho0); obtain ⟨Ao41, co41, eo41⟩ := Kd.R_slice HO330.out; subst eo41))
  go_loopg [1, 9, 39] k1 (fun kq v1 v9 v39 w' => ∃ (x1_2 : ByteArray) (x9_2 : List (S48)) (x39_2 : Int), v1 = .string x1_2 ∧ v39 = .int .i64 x39_2 ∧ Aside0 (impl_FirstKnobs.l1 kq x1_2 a2 t320 x9_2 t328 (t328.length : Int) x39_2 a0_0 a0_1 l0_2 = some (r1, r2)) ∧ Aside0 (kq ≤ k1) ∧ Aside0 (Kd.R (Kd.int .i64) 3 w' w.heap.size (fun _ => True) (.slice (some ad327) t320.length co36) t320) ∧ Aside0 (Kd.R k48 48 w' w.heap.size (fun k_ => some k_ ≠ ((.slice Ao41 t328.length co41) : Value).ownBlock) v9 x9_2) ∧ Aside0 (Kd.R k48 48 w' w.heap.size (fun k_ => some k_ ≠ (v9 : Value).ownBlock) (.slice Ao41 t328.length co41) t328) ∧ Aside0 (w'.heap[gb315]? = some (.cells #[.int .i64 a0_0, .int .i64 a0_1, (.slice A0_2 l0_2.length c0_2)] 33 (0, 0))) ∧ Aside0 (Below w.heap.size w w'))
  case atStart => refine ⟨(x1_1), (x9_1), (0), (by first | rfl | (simp; done) | (simp [*]; done)), (by first | rfl | (simp; done) | (simp [*]; done)), H', ⟨Nat.le_refl _⟩, ⟨?_⟩, ⟨by (with_reducible repeat (first | apply r_a | apply r_d | apply r_e)); exact Kd.R_mono HO_9.out (fun _ hk => hk.2)⟩, ⟨by (with_reducible repeat (first | apply r_a | apply r_d | apply r_e)); exact Kd.R_mono HO330.out (fun _ hk => hk.2)⟩, ⟨?_⟩, ⟨bB HB⟩⟩ <;> (with_reducible repeat (first | refine g_d ?_ _ | refine g_e ?_ | refine g_a ?_ _ | apply r_a | apply r_d | apply r_e)) <;> first | exact BK315.out | exact HO_8.out
  clear H'
  try clear c37
  try clear c37b0
  try clear c37b1
  try clear hcz39_0
  try clear hcz39_1
  try clear hcz39_2
  try clear hfz39_0
  try clear hfz39_1
  try clear hfz39_2
  obtain ⟨x1_2, x9_2, x39_2, rfl, rfl, HA, HK2, HO_8, HO_9, HO_37, BK315, HB⟩ := hrel
  rcases gk with _ | k2
  · exact absurd HA.out (by simp [impl_FirstKnobs.l1])
  have H := HA.out
  clear HA
  simp only [impl_FirstKnobs.l1] at H
  by_cases c42 : x39_2 < (t328.length : Int)
  rotate_left
  · rw [if_neg c42] at H
    have c42b0 : decide (x39_2 < (t328.length : Int)) = false := decide_eq_false c42
    clear c42
    have H' := Aside0.mk H
    clear H
    go_wp2
    go_roundg k2
    case measure => have := HK1.out; have := HK2.out; omega
    case rel => refine ⟨(x1_2), (x9_2), (by first | rfl | (simp; done) | (simp [*]; done)), H', ⟨by have := HK1.out; have := HK2.out; omega⟩, ⟨?_⟩, ⟨by (with_reducible repeat (first | apply r_a | apply r_d | apply r_e)); exact Kd.R_mono HO_9.out (fun _ hk => trivial)⟩, ⟨?_⟩, ⟨bB HB⟩⟩ <;> (with_reducible repeat (first | refine g_d ?_ _ | refine g_e ?_ | refine g_a ?_ _ | apply r_a | apply r_d | apply r_e)) <;> first | exact BK315.out | exact HO_8.out
  rw [if_pos c42] at H
  have c42b0 : decide (x39_2 < (t328.length : Int)) = true := decide_eq_true c42
  clear c42
  by_cases c43 : 0 ≤ x39_2
  rotate_left
  · rw [if_neg c43] at H
    exact absurd H (by simp)
  rw [if_pos c43] at H
  have c43b0 : decide (0 ≤ x39_2) = true := decide_eq_true c43
  clear c43
  by_cases c44 : x39_2 < (t328.length : Int)
  rotate_left
  · rw [if_neg c44] at H
    exact absurd H (by simp)
  rw [if_pos c44] at H
  have c44b0 : decide (x39_2 < (t328.length : Int)) = true := decide_eq_true c44
  clear c44
  replace H := Option.bind_eq_some_iff.mp H
  obtain ⟨t333, A450, H⟩ := H
  try dsimp only at H
  have A45 := Aside0.mk A450
  clear A450
  replace H := Option.bind_eq_some_iff.mp H
  obtain ⟨t334, A460, H⟩ := H
  try dsimp only at H
  have A46 := Aside0.mk A460
  clear A460
  by_cases c47 : 0 ≤ t334
  rotate_left
  · rw [if_neg c47] at H
    exact absurd H (by simp)
  rw [if_pos c47] at H
  have c47b0 : decide (0 ≤ t334) = true := decide_eq_true c47
  clear c47
  by_cases c48 : t334 < (t320.length : Int)
  rotate_left
  · rw [if_neg c48] at H
    exact absurd H (by simp)
  rw [if_pos c48] at H
  have c48b0 : decide (t334 < (t320.length : Int)) = true := decide_eq_true c48
  clear c48
  replace H := Option.bind_eq_some_iff.mp H
  obtain ⟨t336, A490, H⟩ := H
  try dsimp only at H
  have A49 := Aside0.mk A490
  clear A490
  by_cases c50 : 0 ≤ t336
  rotate_left
  · rw [if_neg c50] at H
    exact absurd H (by simp)
  rw [if_pos c50] at H
  have c50b0 : decide (0 ≤ t336) = true := decide_eq_true c50
  clear c50
  by_cases c51 : t336 < (t320.length : Int)
  rotate_left
  · rw [if_neg c51] at H
    exact absurd H (by simp)
  rw [if_pos c51] at H
  have c51b0 : decide (t336 < (t320.length : Int)) = true := decide_eq_true c51
  clear c51
  by_cases c52 : (rd t320 t334) < (rd t320 t336)
  rotate_left
  · rw [if_neg c52] at H
    have c52b0 : decide ((rd t320 t334) < (rd t320 t336)) = false := decide_eq_false c52
    clear c52
    have H' := Aside0.mk H
    clear H
    have p331 : 0 ≤ (x39_2 : Int) := of_decide_eq_true (by first | (with_reducible assumption) | assumption)
    have q331 : x39_2 < (t328.length : Int) := of_decide_eq_true (by first | (with_reducible assumption) | assumption)
    obtain ⟨ad331, e331, hx331_0, hx331_1⟩ := at_T48 (Kd.R_reads' HO_37.out).2.2 x39_2 p331 q331
    cases e331
    replace p331 := eq_true p331
    replace q331 := eq_true q331
    try go_wp2_with (first | ((with_reducible refine gate_dst (N := 11) rfl ?_); refine box_event ?hg (N := 11) ?hd (cs := #[.int .i64 0, .int .i64 0]) (t := 48) ?hr ?_; (case hd => rfl); (case hg => rfl); (case hr => first | (go_simp; done) | (go_simp; rfl)); intro gb332 hg w64 hbox hb; have n0_ := Aside0.mk (Kd.R_below (by (with_reducible repeat (first | apply r_a | apply r_d | apply r_e)); exact HO_8.out) hb); have n1_ := Aside0.mk (Kd.R_below (Kd.R_elderB (by (with_reducible repeat (first | apply r_a | apply r_d | apply r_e)); exact HO_9.out) gb332 (Nat.le_of_eq hg.symm)) hb); have n2_ := Aside0.mk (Kd.R_below (Kd.R_elderB (by (with_reducible repeat (first | apply r_a | apply r_d | apply r_e)); exact HO_37.out) gb332 (Nat.le_of_eq hg.symm)) hb); have n3_ := bbx hb BK315; have n4_ := bsx hb HB; have n5_ := Aside0.mk (hbox); have n6_ := gwx hg HB; have n7_ := gwx hg HB; have n8_ := nlx hg BK315; have n9_ := ngx hg BK315; clear HO_8; clear HO_9; clear HO_37; clear BK315; clear HB; have HO_8 := n0_; have HO_9 := n1_; have HO_37 := n2_; have BK315 := n3_; have HB := n4_; have BK332 := n5_; have GW332 := n6_; have GE332 := n7_; have NB315_332 := n8_; have NB332_315 := n9_; clear n0_ n1_ n2_ n3_ n4_ n5_ n6_ n7_ n8_ n9_; clear hb hbox hg; have hnb65 := NB332_315.out; have hnc65 := NB315_332.out; have hcz66_0 := cz0 BK332; have hcz66_1 := cz1 BK332; have hfz66_0 := blk_frozen BK332.out 0; have hfz66_1 := blk_frozen BK332.out 1; have hcz67_0 : w64.cell? ⟨gb315, 0, none⟩ = some (.int .i64 a0_0) := (blk_cell BK315.out 0).trans rfl; have hcz67_1 : w64.cell? ⟨gb315, 1, none⟩ = some (.int .i64 a0_1) := (blk_cell BK315.out 1).trans rfl; have hcz67_2 : w64.cell? ⟨gb315, 2, none⟩ = some (.slice A0_2 l0_2.length c0_2) := (blk_cell BK315.out 2).trans rfl; have hfz67_0 := blk_frozen BK315.out 0; have hfz67_1 := blk_frozen BK315.out 1; have hfz67_2 := blk_frozen BK315.out 2) | ((with_reducible refine gate_callee (f := 44) rfl ?_); refine goesL_ (some 49) rfl rfl Try.func44 (by kernel_rfl) rfl #[.agg #[.int .i64 a0_0, .int .i64 a0_1, .slice A0_2 l0_2.length c0_2], .string x1_2, .int .i64 ((rd_T48 t328 x39_2).f0), .int .i64 ((rd_T48 t328 x39_2).f1)] rfl (by (try simp only [m_1, m_2, m_3]); first | done | rfl | (simp only [m_4, m_5]; rfl)) ?_; (with_reducible refine (impl_Gears_turned.calls k2 a0_0 a0_1 _ _ l0_2 x1_2 ((rd_T48 t328 x39_2).f0) ((rd_T48 t328 x39_2).f1) t333 _ ?side1 ?side2 A45.out).mono ?_); (case side1 => exact Kd.C_below HR0_2.out (bB HB)); (case side2 => exact HC0_2.out); rintro e w68 ⟨rfl, hb⟩; refine ⟨_, rfl, ?_⟩; have n0_ := Aside0.mk (Kd.R_below (by (with_reducible repeat (first | apply r_a | apply r_d | apply r_e)); exact (Kd.R_mono (Kd.R_far (p := ⟨gb332, 1, none⟩) (Kd.R_far (p := ⟨gb332, 0, none⟩) (Kd.R_types HO_8.out BK332.out (by decide)) (fun _ hk => hk.2) (.int .i64 ((rd_T48 t328 x39_2).f0))) (fun _ hk => hk.2) (.int .i64 ((rd_T48 t328 x39_2).f1))) (fun _ h_ => h_.1))) hb); have n1_ := Aside0.mk (Kd.R_below (by (with_reducible repeat (first | apply r_a | apply r_d | apply r_e)); exact (Kd.R_mono (Kd.R_far (p := ⟨gb332, 1, none⟩) (Kd.R_far (p := ⟨gb332, 0, none⟩) (Kd.R_mono HO_9.out (fun k_ hk => (⟨hk, hk.2⟩ : _ ∧ k_ ≠ gb332))) (fun _ hk => hk.2) (.int .i64 ((rd_T48 t328 x39_2).f0))) (fun _ hk => hk.2) (.int .i64 ((rd_T48 t328 x39_2).f1))) (fun _ h_ => h_.1))) hb); have n2_ := Aside0.mk (Kd.R_below (by (with_reducible repeat (first | apply r_a | apply r_d | apply r_e)); exact (Kd.R_mono (Kd.R_far (p := ⟨gb332, 1, none⟩) (Kd.R_far (p := ⟨gb332, 0, none⟩) (Kd.R_mono HO_37.out (fun k_ hk => (⟨hk, hk.2⟩ : _ ∧ k_ ≠ gb332))) (fun _ hk => hk.2) (.int .i64 ((rd_T48 t328 x39_2).f0))) (fun _ hk => hk.2) (.int .i64 ((rd_T48 t328 x39_2).f1))) (fun _ h_ => h_.1))) hb); have n3_ := Aside0.mk (blk_below (g := gb315) (o := .cells #[.int .i64 a0_0, .int .i64 a0_1, .slice A0_2 l0_2.length c0_2] 33 (0, 0)) (bF) hb); have n4_ := Aside0.mk (blk_below (g := gb332) (o := .cells #[.int .i64 ((rd_T48 t328 x39_2).f0), .int .i64 ((rd_T48 t328 x39_2).f1)] 48 (0, 0)) (by (with_reducible repeat (first | refine g_d ?_ _ | refine g_e ?_ | refine g_a ?_ _)); refine blk_put (cs := #[.int .i64 ((rd_T48 t328 x39_2).f0), .int .i64 0]) ?_ 1 _ rfl; (with_reducible repeat (first | refine g_d ?_ _ | refine g_e ?_ | refine g_a ?_ _)); refine blk_put (cs := #[.int .i64 0, .int .i64 0]) ?_ 0 _ rfl; (with_reducible repeat (first | refine g_d ?_ _ | refine g_e ?_ | refine g_a ?_ _)); exact BK332.out) hb); replace HB := bsx hb HB; clear HO_8; clear HO_9; clear HO_37; clear BK315; clear BK332; have HO_8 := n0_; have HO_9 := n1_; have HO_37 := n2_; have BK315 := n3_; have BK332 := n4_; clear n0_ n1_ n2_ n3_ n4_; (try clear hb); (try clear hb2); (try clear hk); (try clear hi)))
    have n0_ := Aside0.mk (r_e HO_8.out)
    have n1_ := Aside0.mk (r_e HO_9.out)
    have n2_ := Aside0.mk (r_e HO_37.out)
    have n3_ := Aside0.mk (g_e BK315.out)
    have n4_ := Aside0.mk (g_e BK332.out)
    have n5_ := Aside0.mk (b_e HB.out)
    clear HO_8
    clear HO_9
    clear HO_37
    clear BK315
    clear BK332
    clear HB
    have HO_8 := n0_
    have HO_9 := n1_
    have HO_37 := n2_
    have BK315 := n3_
    have BK332 := n4_
    have HB := n5_
    clear n0_ n1_ n2_ n3_ n4_ n5_
    have p335 : 0 ≤ (t334 : Int) := of_decide_eq_true (by first | (with_reducible assumption) | assumption)
    have q335 : t334 < (t320.length : Int) := of_decide_eq_true (by first | (with_reducible assumption) | assumption)
    obtain ⟨ad335, e335, hx335_0⟩ := Kd.at_int (Kd.R_reads' HO_8.out).2.2 t334 p335 q335
    obtain rfl : ad327 = ad335 := (by injection e335)
    replace p335 := eq_true p335
    replace q335 := eq_true q335
    have p337 : 0 ≤ (t336 : Int) := of_decide_eq_true (by first | (with_reducible assumption) | assumption)
    have q337 : t336 < (t320.length : Int) := of_decide_eq_true (by first | (with_reducible assumption) | assumption)
    obtain ⟨ad337, e337, hx337_0⟩ := Kd.at_int (Kd.R_reads' HO_8.out).2.2 t336 p337 q337
    obtain rfl : ad327 = ad337 := (by injection e337)
    replace p337 := eq_true p337
    replace q337 := eq_true q337
    refine start_ (n := 15) (S := fun w' => w'.cell? ⟨gb315, 0, none⟩ = some (.int .i64 a0_0) ∧ w'.cell? ⟨gb315, 1, none⟩ = some (.int .i64 a0_1) ∧ w'.cell? ⟨gb315, 2, none⟩ = some (.slice A0_2 l0_2.length c0_2) ∧ w'.cell? (ad327.add (t334).toNat) = some (.int .i64 (rd t320 t334)) ∧ w'.cell? (ad327.add (t336).toNat) = some (.int .i64 (rd t320 t336))) (ds := []) (bs_ 15 0) (by kernel_rfl) rfl rfl ⟨(blk_cell BK315.out 0).trans rfl, (blk_cell BK315.out 1).trans rfl, (blk_cell BK315.out 2).trans rfl, hx335_0, hx337_0⟩ (fun hHeld => ?_); refine with_tabW impl_FirstKnobs.tab11 impl_FirstKnobs.bits11 (fun HT_ HW_ => ?_)
    generalize w68.drew = w69 at HO_8 HO_9 HO_37 BK315 BK332 HB hx335_0 hx337_0 hHeld ⊢
    refine pua 0 50 (bs_ 15 1) HT_ ?_
    refine pua 1 51 (bs_ 15 3) HT_ ?_
    refine pua 3 53 (bs_ 15 11) HT_ ?_
    refine pua 7 57 (bs_ 15 139) HT_ ?_
    refine pua 8 58 (bs_ 15 395) HT_ ?_
    refine pua 10 60 (bs_ 15 1419) HT_ ?_
    refine tk_ 2 52 (bs_ 15 1423) rfl rfl HT_ HW_ (by kernel_rfl) (fun _ _ _ h => h) (by rfl) hHeld (by rintro w' ⟨s0, s1, s2, s3, s4⟩; go_simp; with_reducible rfl) (by simp only [Act.put, s_1, s_2, s_3, i64_w, i32_w]; rfl) ?_
    refine tk_ 9 59 (bs_ 15 1935) rfl rfl HT_ HW_ (by kernel_rfl) (fun _ _ _ h => h) (by rfl) hHeld (by rintro w' ⟨s0, s1, s2, s3, s4⟩; go_simp; with_reducible rfl) (by simp only [Act.put, s_1, s_2, s_3, i64_w, i32_w]; rfl) ?_
    refine one_ (i := 4) (N := some 54) (bs_ 15 1951) rfl rfl (one_of HT_.out (by kernel_rfl)) (by decide) (fun K hK => ?_)
    refine goes_ Try.func42 (by kernel_rfl) rfl #[.agg #[.int .i64 a0_0, .int .i64 a0_1], .string t333] (by rfl) rfl rfl (by (try simp only [m_1, m_2, m_3]); first | done | rfl | (simp only [m_4, m_5]; rfl)) ?_
    with_reducible refine (impl_Lock_number.calls k2 a0_0 a0_1 t333 t334 _ A46.out).mono ?_
    rintro e w70 ⟨rfl, hb⟩
    have HS3_ := (hb.cell (World.block_lt_of_cell? _ _ (hHeld.2.2.2.1))).trans (hHeld.2.2.2.1)
    have HS4_ := (hb.cell (World.block_lt_of_cell? _ _ (hHeld.2.2.2.2))).trans (hHeld.2.2.2.2)
    refine ⟨_, rfl, ?_⟩
    have n0_ := Aside0.mk (Kd.R_below (by (with_reducible repeat (first | apply r_a | apply r_d | apply r_e)); exact HO_8.out) hb)
    have n1_ := Aside0.mk (Kd.R_below (by (with_reducible repeat (first | apply r_a | apply r_d | apply r_e)); exact HO_9.out) hb)
    have n2_ := Aside0.mk (Kd.R_below (by (with_reducible repeat (first | apply r_a | apply r_d | apply r_e)); exact HO_37.out) hb)
    have n3_ := bbx hb BK315
    have n4_ := bbx hb BK332
    have n5_ := bsx hb HB
    clear HO_8
    clear HO_9
    clear HO_37
    clear BK315
    clear BK332
    clear HB
    have HO_8 := n0_
    have HO_9 := n1_
    have HO_37 := n2_
    have BK315 := n3_
    have BK332 := n4_
    have HB := n5_
    clear n0_ n1_ n2_ n3_ n4_ n5_
    (try clear hb)
    (try clear hb2)
    (try clear hk)
    (try clear hi)
    refine hK.out _ _ ⟨(blk_cell BK315.out 0).trans rfl, (blk_cell BK315.out 1).trans rfl, (blk_cell BK315.out 2).trans rfl, HS3_, HS4_⟩ (fun hHeld => ?_)
    clear hK K
    refine norm_ (a' := ?_) ?_ ?_
    rotate_left
    · show Act.put _ (some 54) _ = _
      simp only [Act.put, s_1, s_2, s_3, i64_w, i32_w]
      rfl
    refine pua 5 55 (bs_ 15 1983) HT_ ?_
    refine tk_ 6 56 (bs_ 15 2047) rfl rfl HT_ HW_ (by kernel_rfl) (fun _ _ _ h => h) (by rfl) hHeld (by rintro w' ⟨s0, s1, s2, s3, s4⟩; go_simp; with_reducible rfl) (by simp only [Act.put, s_1, s_2, s_3, i64_w, i32_w]; rfl) ?_
    refine one_ (i := 11) (N := some 61) (bs_ 15 4095) rfl rfl (one_of HT_.out (by kernel_rfl)) (by decide) (fun K hK => ?_)
    refine goes_ Try.func42 (by kernel_rfl) rfl #[.agg #[.int .i64 a0_0, .int .i64 a0_1], .string x1_2] (by rfl) rfl rfl (by (try simp only [m_1, m_2, m_3]); first | done | rfl | (simp only [m_4, m_5]; rfl)) ?_
    with_reducible refine (impl_Lock_number.calls k2 a0_0 a0_1 x1_2 t336 _ A49.out).mono ?_
    rintro e w71 ⟨rfl, hb⟩
    have HS3_ := (hb.cell (World.block_lt_of_cell? _ _ (hHeld.2.2.2.1))).trans (hHeld.2.2.2.1)
    have HS4_ := (hb.cell (World.block_lt_of_cell? _ _ (hHeld.2.2.2.2))).trans (hHeld.2.2.2.2)
    refine ⟨_, rfl, ?_⟩
    have n0_ := Aside0.mk (Kd.R_below (by (with_reducible repeat (first | apply r_a | apply r_d | apply r_e)); exact HO_8.out) hb)
    have n1_ := Aside0.mk (Kd.R_below (by (with_reducible repeat (first | apply r_a | apply r_d | apply r_e)); exact HO_9.out) hb)
    have n2_ := Aside0.mk (Kd.R_below (by (with_reducible repeat (first | apply r_a | apply r_d | apply r_e)); exact HO_37.out) hb)
    have n3_ := bbx hb BK315
    have n4_ := bbx hb BK332
    have n5_ := bsx hb HB
    clear HO_8
    clear HO_9
    clear HO_37
    clear BK315
    clear BK332
    clear HB
    have HO_8 := n0_
    have HO_9 := n1_
    have HO_37 := n2_
    have BK315 := n3_
    have BK332 := n4_
    have HB := n5_
    clear n0_ n1_ n2_ n3_ n4_ n5_
    (try clear hb)
    (try clear hb2)
    (try clear hk)
    (try clear hi)
    refine hK.out _ _ ⟨(blk_cell BK315.out 0).trans rfl, (blk_cell BK315.out 1).trans rfl, (blk_cell BK315.out 2).trans rfl, HS3_, HS4_⟩ (fun hHeld => ?_)
    clear hK K
    refine norm_ (a' := ?_) ?_ ?_
    rotate_left
    · show Act.put _ (some 61) _ = _
      simp only [Act.put, s_1, s_2, s_3, i64_w, i32_w]
      rfl
    refine pua 12 62 (bs_ 15 8191) HT_ ?_
    refine tk_ 13 63 (bs_ 15 16383) rfl rfl HT_ HW_ (by kernel_rfl) (fun _ _ _ h => h) (by rfl) hHeld (by rintro w' ⟨s0, s1, s2, s3, s4⟩; go_simp; with_reducible rfl) (by simp only [Act.put, s_1, s_2, s_3, i64_w, i32_w]; rfl) ?_
    refine pua 14 64 (bs_ 15 32767) HT_ ?_
    refine done_ (done_of HT_.out (by kernel_rfl)) ?_
    try go_wp2
    go_roundg k2
    case measure => have := HK1.out; have := HK2.out; omega
    case rel => refine ⟨(x1_2), (x9_2), (wrap64 (x39_2 + 1)), (by first | rfl | (simp; done) | (simp [*]; done)), (by first | rfl | (simp; done) | (simp [*]; done)), H', ⟨by have := HK1.out; have := HK2.out; omega⟩, ⟨?_⟩, ⟨by (with_reducible repeat (first | apply r_a | apply r_d | apply r_e)); exact Kd.R_mono HO_9.out (fun _ hk => hk.1)⟩, ⟨by (with_reducible repeat (first | apply r_a | apply r_d | apply r_e)); exact Kd.R_mono HO_37.out (fun _ hk => hk.1)⟩, ⟨?_⟩, ⟨bB HB⟩⟩ <;> (with_reducible repeat (first | refine g_d ?_ _ | refine g_e ?_ | refine g_a ?_ _ | apply r_a | apply r_d | apply r_e)) <;> first | exact BK315.out | exact HO_8.out
  rw [if_pos c52] at H
  have c52b0 : decide ((rd t320 t334) < (rd t320 t336)) = true := decide_eq_true c52
  clear c52
  by_cases c53 : x9_2.length < 8796093022208
  rotate_left
  · rw [if_neg c53] at H
    exact absurd H (by simp)
  rw [if_pos c53] at H
  have LMc53 := Aside0.mk c53
  clear c53
  obtain ⟨y338, hy338⟩ : ∃ y_ : List (S48), y_ = (x9_2 ++ [(⟨(rd_T48 t328 x39_2).f0, (rd_T48 t328 x39_2).f1⟩ : S48)]) := ⟨_, rfl⟩
  replace H : (impl_FirstKnobs.l0 k2 t333 a2 t320 y338 a0_0 a0_1 l0_2) = some (r1, r2) := by first | (rw [hy338]; with_reducible exact H) | (have H2_ := (Option.bind_some _ _).symm.trans H; rw [hy338]; with_reducible exact H2_) | (have H2_ := (Option.bind_some _ _).symm.trans H; with_reducible exact H2_) | with_reducible exact H | (rw [hy338]; exact H) | exact H
  have Ny338 := Aside0.mk hy338
  clear hy338
  have H' := Aside0.mk H
  clear H
  have p331 : 0 ≤ (x39_2 : Int) := of_decide_eq_true (by first | (with_reducible assumption) | assumption)
  have q331 : x39_2 < (t328.length : Int) := of_decide_eq_true (by first | (with_reducible assumption) | assumption)
  obtain ⟨ad331, e331, hx331_0, hx331_1⟩ := at_T48 (Kd.R_reads' HO_37.out).2.2 x39_2 p331 q331
  cases e331
  replace p331 := eq_true p331
  replace q331 := eq_true q331
  try go_wp2_with (first | ((with_reducible refine gate_dst (N := 11) rfl ?_); refine box_event ?hg (N := 11) ?hd (cs := #[.int .i64 0, .int .i64 0]) (t := 48) ?hr ?_; (case hd => rfl); (case hg => rfl); (case hr => first | (go_simp; done) | (go_simp; rfl)); intro gb332 hg w54 hbox hb; have n0_ := Aside0.mk (Kd.R_below (by (with_reducible repeat (first | apply r_a | apply r_d | apply r_e)); exact HO_8.out) hb); have n1_ := Aside0.mk (Kd.R_below (Kd.R_elderB (by (with_reducible repeat (first | apply r_a | apply r_d | apply r_e)); exact HO_9.out) gb332 (Nat.le_of_eq hg.symm)) hb); have n2_ := Aside0.mk (Kd.R_below (Kd.R_elderB (by (with_reducible repeat (first | apply r_a | apply r_d | apply r_e)); exact HO_37.out) gb332 (Nat.le_of_eq hg.symm)) hb); have n3_ := bbx hb BK315; have n4_ := bsx hb HB; have n5_ := Aside0.mk (hbox); have n6_ := gwx hg HB; have n7_ := gwx hg HB; have n8_ := nlx hg BK315; have n9_ := ngx hg BK315; clear HO_8; clear HO_9; clear HO_37; clear BK315; clear HB; have HO_8 := n0_; have HO_9 := n1_; have HO_37 := n2_; have BK315 := n3_; have HB := n4_; have BK332 := n5_; have GW332 := n6_; have GE332 := n7_; have NB315_332 := n8_; have NB332_315 := n9_; clear n0_ n1_ n2_ n3_ n4_ n5_ n6_ n7_ n8_ n9_; clear hb hbox hg; have hnb55 := NB332_315.out; have hnc55 := NB315_332.out; have hcz56_0 := cz0 BK332; have hcz56_1 := cz1 BK332; have hfz56_0 := blk_frozen BK332.out 0; have hfz56_1 := blk_frozen BK332.out 1; have hcz57_0 : w54.cell? ⟨gb315, 0, none⟩ = some (.int .i64 a0_0) := (blk_cell BK315.out 0).trans rfl; have hcz57_1 : w54.cell? ⟨gb315, 1, none⟩ = some (.int .i64 a0_1) := (blk_cell BK315.out 1).trans rfl; have hcz57_2 : w54.cell? ⟨gb315, 2, none⟩ = some (.slice A0_2 l0_2.length c0_2) := (blk_cell BK315.out 2).trans rfl; have hfz57_0 := blk_frozen BK315.out 0; have hfz57_1 := blk_frozen BK315.out 1; have hfz57_2 := blk_frozen BK315.out 2) | ((with_reducible refine gate_callee (f := 44) rfl ?_); refine goesL_ (some 49) rfl rfl Try.func44 (by kernel_rfl) rfl #[.agg #[.int .i64 a0_0, .int .i64 a0_1, .slice A0_2 l0_2.length c0_2], .string x1_2, .int .i64 ((rd_T48 t328 x39_2).f0), .int .i64 ((rd_T48 t328 x39_2).f1)] rfl (by (try simp only [m_1, m_2, m_3]); first | done | rfl | (simp only [m_4, m_5]; rfl)) ?_; (with_reducible refine (impl_Gears_turned.calls k2 a0_0 a0_1 _ _ l0_2 x1_2 ((rd_T48 t328 x39_2).f0) ((rd_T48 t328 x39_2).f1) t333 _ ?side1 ?side2 A45.out).mono ?_); (case side1 => exact Kd.C_below HR0_2.out (bB HB)); (case side2 => exact HC0_2.out); rintro e w58 ⟨rfl, hb⟩; refine ⟨_, rfl, ?_⟩; have n0_ := Aside0.mk (Kd.R_below (by (with_reducible repeat (first | apply r_a | apply r_d | apply r_e)); exact (Kd.R_mono (Kd.R_far (p := ⟨gb332, 1, none⟩) (Kd.R_far (p := ⟨gb332, 0, none⟩) (Kd.R_types HO_8.out BK332.out (by decide)) (fun _ hk => hk.2) (.int .i64 ((rd_T48 t328 x39_2).f0))) (fun _ hk => hk.2) (.int .i64 ((rd_T48 t328 x39_2).f1))) (fun _ h_ => h_.1))) hb); have n1_ := Aside0.mk (Kd.R_below (by (with_reducible repeat (first | apply r_a | apply r_d | apply r_e)); exact (Kd.R_mono (Kd.R_far (p := ⟨gb332, 1, none⟩) (Kd.R_far (p := ⟨gb332, 0, none⟩) (Kd.R_mono HO_9.out (fun k_ hk => (⟨hk, hk.2⟩ : _ ∧ k_ ≠ gb332))) (fun _ hk => hk.2) (.int .i64 ((rd_T48 t328 x39_2).f0))) (fun _ hk => hk.2) (.int .i64 ((rd_T48 t328 x39_2).f1))) (fun _ h_ => h_.1))) hb); have n2_ := Aside0.mk (Kd.R_below (by (with_reducible repeat (first | apply r_a | apply r_d | apply r_e)); exact (Kd.R_mono (Kd.R_far (p := ⟨gb332, 1, none⟩) (Kd.R_far (p := ⟨gb332, 0, none⟩) (Kd.R_mono HO_37.out (fun k_ hk => (⟨hk, hk.2⟩ : _ ∧ k_ ≠ gb332))) (fun _ hk => hk.2) (.int .i64 ((rd_T48 t328 x39_2).f0))) (fun _ hk => hk.2) (.int .i64 ((rd_T48 t328 x39_2).f1))) (fun _ h_ => h_.1))) hb); have n3_ := Aside0.mk (blk_below (g := gb315) (o := .cells #[.int .i64 a0_0, .int .i64 a0_1, .slice A0_2 l0_2.length c0_2] 33 (0, 0)) (bF) hb); have n4_ := Aside0.mk (blk_below (g := gb332) (o := .cells #[.int .i64 ((rd_T48 t328 x39_2).f0), .int .i64 ((rd_T48 t328 x39_2).f1)] 48 (0, 0)) (by (with_reducible repeat (first | refine g_d ?_ _ | refine g_e ?_ | refine g_a ?_ _)); refine blk_put (cs := #[.int .i64 ((rd_T48 t328 x39_2).f0), .int .i64 0]) ?_ 1 _ rfl; (with_reducible repeat (first | refine g_d ?_ _ | refine g_e ?_ | refine g_a ?_ _)); refine blk_put (cs := #[.int .i64 0, .int .i64 0]) ?_ 0 _ rfl; (with_reducible repeat (first | refine g_d ?_ _ | refine g_e ?_ | refine g_a ?_ _)); exact BK332.out) hb); replace HB := bsx hb HB; clear HO_8; clear HO_9; clear HO_37; clear BK315; clear BK332; have HO_8 := n0_; have HO_9 := n1_; have HO_37 := n2_; have BK315 := n3_; have BK332 := n4_; clear n0_ n1_ n2_ n3_ n4_; (try clear hb); (try clear hb2); (try clear hk); (try clear hi)))
  have n0_ := Aside0.mk (r_e HO_8.out)
  have n1_ := Aside0.mk (r_e HO_9.out)
  have n2_ := Aside0.mk (r_e HO_37.out)
  have n3_ := Aside0.mk (g_e BK315.out)
  have n4_ := Aside0.mk (g_e BK332.out)
  have n5_ := Aside0.mk (b_e HB.out)
  clear HO_8
  clear HO_9
  clear HO_37
  clear BK315
  clear BK332
  clear HB
  have HO_8 := n0_
  have HO_9 := n1_
  have HO_37 := n2_
  have BK315 := n3_
  have BK332 := n4_
  have HB := n5_
  clear n0_ n1_ n2_ n3_ n4_ n5_
  have p335 : 0 ≤ (t334 : Int) := of_decide_eq_true (by first | (with_reducible assumption) | assumption)
  have q335 : t334 < (t320.length : Int) := of_decide_eq_true (by first | (with_reducible assumption) | assumption)
  obtain ⟨ad335, e335, hx335_0⟩ := Kd.at_int (Kd.R_reads' HO_8.out).2.2 t334 p335 q335
  obtain rfl : ad327 = ad335 := (by injection e335)
  replace p335 := eq_true p335
  replace q335 := eq_true q335
  have p337 : 0 ≤ (t336 : Int) := of_decide_eq_true (by first | (with_reducible assumption) | assumption)
  have q337 : t336 < (t320.length : Int) := of_decide_eq_true (by first | (with_reducible assumption) | assumption)
  obtain ⟨ad337, e337, hx337_0⟩ := Kd.at_int (Kd.R_reads' HO_8.out).2.2 t336 p337 q337
  obtain rfl : ad327 = ad337 := (by injection e337)
  replace p337 := eq_true p337
  replace q337 := eq_true q337
  refine start_ (n := 15) (S := fun w' => w'.cell? ⟨gb315, 0, none⟩ = some (.int .i64 a0_0) ∧ w'.cell? ⟨gb315, 1, none⟩ = some (.int .i64 a0_1) ∧ w'.cell? ⟨gb315, 2, none⟩ = some (.slice A0_2 l0_2.length c0_2) ∧ w'.cell? (ad327.add (t334).toNat) = some (.int .i64 (rd t320 t334)) ∧ w'.cell? (ad327.add (t336).toNat) = some (.int .i64 (rd t320 t336))) (ds := []) (bs_ 15 0) (by kernel_rfl) rfl rfl ⟨(blk_cell BK315.out 0).trans rfl, (blk_cell BK315.out 1).trans rfl, (blk_cell BK315.out 2).trans rfl, hx335_0, hx337_0⟩ (fun hHeld => ?_); refine with_tabW impl_FirstKnobs.tab11 impl_FirstKnobs.bits11 (fun HT_ HW_ => ?_)
  generalize w58.drew = w59 at HO_8 HO_9 HO_37 BK315 BK332 HB hx335_0 hx337_0 hHeld ⊢
  refine pua 0 50 (bs_ 15 1) HT_ ?_
  refine pua 1 51 (bs_ 15 3) HT_ ?_
  refine pua 3 53 (bs_ 15 11) HT_ ?_
  refine pua 7 57 (bs_ 15 139) HT_ ?_
  refine pua 8 58 (bs_ 15 395) HT_ ?_
  refine pua 10 60 (bs_ 15 1419) HT_ ?_
  refine tk_ 2 52 (bs_ 15 1423) rfl rfl HT_ HW_ (by kernel_rfl) (fun _ _ _ h => h) (by rfl) hHeld (by rintro w' ⟨s0, s1, s2, s3, s4⟩; go_simp; with_reducible rfl) (by simp only [Act.put, s_1, s_2, s_3, i64_w, i32_w]; rfl) ?_
  refine tk_ 9 59 (bs_ 15 1935) rfl rfl HT_ HW_ (by kernel_rfl) (fun _ _ _ h => h) (by rfl) hHeld (by rintro w' ⟨s0, s1, s2, s3, s4⟩; go_simp; with_reducible rfl) (by simp only [Act.put, s_1, s_2, s_3, i64_w, i32_w]; rfl) ?_
  refine one_ (i := 4) (N := some 54) (bs_ 15 1951) rfl rfl (one_of HT_.out (by kernel_rfl)) (by decide) (fun K hK => ?_)
  refine goes_ Try.func42 (by kernel_rfl) rfl #[.agg #[.int .i64 a0_0, .int .i64 a0_1], .string t333] (by rfl) rfl rfl (by (try simp only [m_1, m_2, m_3]); first | done | rfl | (simp only [m_4, m_5]; rfl)) ?_
  with_reducible refine (impl_Lock_number.calls k2 a0_0 a0_1 t333 t334 _ A46.out).mono ?_
  rintro e w60 ⟨rfl, hb⟩
  have HS3_ := (hb.cell (World.block_lt_of_cell? _ _ (hHeld.2.2.2.1))).trans (hHeld.2.2.2.1)
  have HS4_ := (hb.cell (World.block_lt_of_cell? _ _ (hHeld.2.2.2.2))).trans (hHeld.2.2.2.2)
  refine ⟨_, rfl, ?_⟩
  have n0_ := Aside0.mk (Kd.R_below (by (with_reducible repeat (first | apply r_a | apply r_d | apply r_e)); exact HO_8.out) hb)
  have n1_ := Aside0.mk (Kd.R_below (by (with_reducible repeat (first | apply r_a | apply r_d | apply r_e)); exact HO_9.out) hb)
  have n2_ := Aside0.mk (Kd.R_below (by (with_reducible repeat (first | apply r_a | apply r_d | apply r_e)); exact HO_37.out) hb)
  have n3_ := bbx hb BK315
  have n4_ := bbx hb BK332
  have n5_ := bsx hb HB
  clear HO_8
  clear HO_9
  clear HO_37
  clear BK315
  clear BK332
  clear HB
  have HO_8 := n0_
  have HO_9 := n1_
  have HO_37 := n2_
  have BK315 := n3_
  have BK332 := n4_
  have HB := n5_
  clear n0_ n1_ n2_ n3_ n4_ n5_
  (try clear hb)
  (try clear hb2)
  (try clear hk)
  (try clear hi)
  refine hK.out _ _ ⟨(blk_cell BK315.out 0).trans rfl, (blk_cell BK315.out 1).trans rfl, (blk_cell BK315.out 2).trans rfl, HS3_, HS4_⟩ (fun hHeld => ?_)
  clear hK K
  refine norm_ (a' := ?_) ?_ ?_
  rotate_left
  · show Act.put _ (some 54) _ = _
    simp only [Act.put, s_1, s_2, s_3, i64_w, i32_w]
    rfl
  refine pua 5 55 (bs_ 15 1983) HT_ ?_
  refine tk_ 6 56 (bs_ 15 2047) rfl rfl HT_ HW_ (by kernel_rfl) (fun _ _ _ h => h) (by rfl) hHeld (by rintro w' ⟨s0, s1, s2, s3, s4⟩; go_simp; with_reducible rfl) (by simp only [Act.put, s_1, s_2, s_3, i64_w, i32_w]; rfl) ?_
  refine one_ (i := 11) (N := some 61) (bs_ 15 4095) rfl rfl (one_of HT_.out (by kernel_rfl)) (by decide) (fun K hK => ?_)
  refine goes_ Try.func42 (by kernel_rfl) rfl #[.agg #[.int .i64 a0_0, .int .i64 a0_1], .string x1_2] (by rfl) rfl rfl (by (try simp only [m_1, m_2, m_3]); first | done | rfl | (simp only [m_4, m_5]; rfl)) ?_
  with_reducible refine (impl_Lock_number.calls k2 a0_0 a0_1 x1_2 t336 _ A49.out).mono ?_
  rintro e w61 ⟨rfl, hb⟩
  have HS3_ := (hb.cell (World.block_lt_of_cell? _ _ (hHeld.2.2.2.1))).trans (hHeld.2.2.2.1)
  have HS4_ := (hb.cell (World.block_lt_of_cell? _ _ (hHeld.2.2.2.2))).trans (hHeld.2.2.2.2)
  refine ⟨_, rfl, ?_⟩
  have n0_ := Aside0.mk (Kd.R_below (by (with_reducible repeat (first | apply r_a | apply r_d | apply r_e)); exact HO_8.out) hb)
  have n1_ := Aside0.mk (Kd.R_below (by (with_reducible repeat (first | apply r_a | apply r_d | apply r_e)); exact HO_9.out) hb)
  have n2_ := Aside0.mk (Kd.R_below (by (with_reducible repeat (first | apply r_a | apply r_d | apply r_e)); exact HO_37.out) hb)
  have n3_ := bbx hb BK315
  have n4_ := bbx hb BK332
  have n5_ := bsx hb HB
  clear HO_8
  clear HO_9
  clear HO_37
  clear BK315
  clear BK332
  clear HB
  have HO_8 := n0_
  have HO_9 := n1_
  have HO_37 := n2_
  have BK315 := n3_
  have BK332 := n4_
  have HB := n5_
  clear n0_ n1_ n2_ n3_ n4_ n5_
  (try clear hb)
  (try clear hb2)
  (try clear hk)
  (try clear hi)
  refine hK.out _ _ ⟨(blk_cell BK315.out 0).trans rfl, (blk_cell BK315.out 1).trans rfl, (blk_cell BK315.out 2).trans rfl, HS3_, HS4_⟩ (fun hHeld => ?_)
  clear hK K
  refine norm_ (a' := ?_) ?_ ?_
  rotate_left
  · show Act.put _ (some 61) _ = _
    simp only [Act.put, s_1, s_2, s_3, i64_w, i32_w]
    rfl
  refine pua 12 62 (bs_ 15 8191) HT_ ?_
  refine tk_ 13 63 (bs_ 15 16383) rfl rfl HT_ HW_ (by kernel_rfl) (fun _ _ _ h => h) (by rfl) hHeld (by rintro w' ⟨s0, s1, s2, s3, s4⟩; go_simp; with_reducible rfl) (by simp only [Act.put, s_1, s_2, s_3, i64_w, i32_w]; rfl) ?_
  refine pua 14 64 (bs_ 15 32767) HT_ ?_
  refine done_ (done_of HT_.out (by kernel_rfl)) ?_
  have hcz62_0 := cz0 BK332
  have hcz62_1 := cz1 BK332
  have hfz62_0 := blk_frozen BK332.out 0
  have hfz62_1 := blk_frozen BK332.out 1
  try go_wp2_with (first | ((with_reducible refine gate_builtin (b := .append) (xs := #[.tmp 65, .tmp 67]) rfl ?_); at_builtin; refine Kd.R_append k48 (w0 := w) w.heap.size rfl (.tmp 65) (.tmp 67) 28 48 (.agg #[(.int .i64 0), (.int .i64 0)]) 16 rfl Try.underlying28 info48 rfl (by decide) (by omega) u9 x9_2 (⟨(rd_T48 t328 x39_2).f0, (rd_T48 t328 x39_2).f1⟩ : S48) [.int .i64 ((rd_T48 t328 x39_2).f0), .int .i64 ((rd_T48 t328 x39_2).f1)] (fun k_ => some k_ ≠ (.slice (some ad331) t328.length co41 : Value).ownBlock ∧ k_ ≠ gb332) (fun _ => False) rfl rfl ?aP (fun _ hk => hk.elim) ?aF ?aO ?aB ?aS ?aL ?_; (case aP => exact k48_mkM _ _ _ (⟨(rd_T48 t328 x39_2).f0, (rd_T48 t328 x39_2).f1⟩ : S48)); (case aB => exact (bB HB)); (case aF => exact (fun k_ hk => ⟨Kd.fresh' (Kd.R_lt (by (with_reducible repeat (first | apply r_a | apply r_d | apply r_e)); exact HO_37.out)) k_ hk, Kd.freshB (g := gb332) (o := .cells #[.int .i64 ((rd_T48 t328 x39_2).f0), .int .i64 ((rd_T48 t328 x39_2).f1)] 48 (0, 0)) (bK BK332) k_ hk⟩)); (case aO => exact (by (with_reducible repeat (first | apply r_a | apply r_d | apply r_e)); exact HO_9.out)); (case aS => exact (below_size (bB HB))); (case aL => have := LMc53.out; omega); intro v339 w63 ho hb hg hat; rw [← Ny338.out] at ho; have n0_ := Aside0.mk (Kd.R_over' (by (with_reducible repeat (first | apply r_a | apply r_d | apply r_e)); exact HO_8.out) (Kd.R_typed (by (with_reducible repeat (first | apply r_a | apply r_d | apply r_e)); exact HO_9.out)) (by decide) hg); have n1_ := Aside0.mk (Kd.R_after (ok := (fun k_ => k_ ≠ gb332)) (by (with_reducible repeat (first | apply r_a | apply r_d | apply r_e)); exact Kd.R_mono HO_37.out (fun _ hk => ⟨hk.2, hk.1⟩)) hg hat); have n2_ := Aside0.mk (blk_grown (g := gb315) (o := .cells #[.int .i64 a0_0, .int .i64 a0_1, .slice A0_2 l0_2.length c0_2] 33 (0, 0)) (bK BK315) hg (Kd.R_ne HO_9.out BK315.out (by decide))); have n3_ := Aside0.mk (blk_grown (g := gb332) (o := .cells #[.int .i64 ((rd_T48 t328 x39_2).f0), .int .i64 ((rd_T48 t328 x39_2).f1)] 48 (0, 0)) (bK BK332) hg (Kd.R_away HO_9.out (fun _ hk => hk.2))); have n4_ := Aside0.mk (hb); have n5_ := Aside0.mk (ho); clear HO_8; clear HO_37; clear BK315; clear BK332; clear HB; clear HO_9; have HO_8 := n0_; have HO_37 := n1_; have BK315 := n2_; have BK332 := n3_; have HB := n4_; have HO340 := n5_; clear n0_ n1_ n2_ n3_ n4_ n5_; clear ho hb hg hat))
  go_roundg k2
  case measure => have := HK1.out; have := HK2.out; omega
  case rel => refine ⟨(t333), (y338), (by first | rfl | (simp; done) | (simp [*]; done)), H', ⟨by have := HK1.out; have := HK2.out; omega⟩, ⟨?_⟩, ⟨by (with_reducible repeat (first | apply r_a | apply r_d | apply r_e)); exact Kd.R_mono HO340.out (fun _ hk => trivial)⟩, ⟨?_⟩, ⟨bB HB⟩⟩ <;> (with_reducible repeat (first | refine g_d ?_ _ | refine g_e ?_ | refine g_a ?_ _ | apply r_a | apply r_d | apply r_e)) <;> first | exact BK315.out | exact HO_8.out
end Go.Proofs.Ytiacdekbleebjaa.P
