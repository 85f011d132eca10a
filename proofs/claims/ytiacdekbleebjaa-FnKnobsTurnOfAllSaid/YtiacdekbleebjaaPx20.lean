-- Texts of this session's own program (wip/dr.py), which runs the kit's printer.
import Derived.Test.YtiacdekbleebjaaPx0
import Derived.Test.YtiacdekbleebjaaPx4
namespace Go.Proofs.Ytiacdekbleebjaa.P
open Go.RowKit Go.Proofs.YtiacdekbleebjaaW.PrintWords Go.Proofs.YtiacdekbleebjaaW.PrintLast Go.Proofs.YtiacdekbleebjaaW.PrintMore
attribute [local go_sem] max2_int min2_int max_two min_two max_three min_three max_four min_four   -- for this text's walks alone
set_option linter.unusedVariables false
set_option linter.unusedSimpArgs false

/-! ### spec_joFar: function 35 -/
mutual
def spec_joFar.l0 : Nat → ByteArray → List Int → Int → Int → Int → Int → List (List Int) → Option (List Int)
  | 0, _, _, _, _, _, _, _ => none
  | k + 1, x1, x5, x19, x20, x161000, x161001, x161002 => if x20 < x19 then (if 0 ≤ x20 then (if x20 < (x5.length : Int) then (spec_joFar.l0 k x1 (x5.set (x20 : Int).toNat (-1)) x19 (wrap64 (x20 + 1)) x161000 x161001 x161002) else (none)) else (none)) else ((spec_whNumber.f k x161000 x161001 x1).bind fun t166 => (if 0 ≤ t166 then (if t166 < (x5.length : Int) then (spec_joFar.l1 k (x5.set (t166 : Int).toNat 0) (([x1] : List ByteArray)) 0 x161000 x161001 x161002) else (none)) else (none)))
def spec_joFar.l1 : Nat → List Int → List ByteArray → Int → Int → Int → List (List Int) → Option (List Int)
  | 0, _, _, _, _, _, _ => none
  | k + 1, x5, x7, x8, x161000, x161001, x161002 => if x8 < (x7.length : Int) then (if 0 ≤ x8 then ((spec_whNumber.f k x161000 x161001 (rdOf ByteArray.empty x7 x8)).bind fun t172 => (if 0 ≤ t172 then (if t172 < (x5.length : Int) then (spec_joFar.l2 k x5 x7 x8 (rd x5 t172) (x161002.length : Int) 0 x161000 x161001 x161002) else (none)) else (none))) else (none)) else (some x5)
def spec_joFar.l2 : Nat → List Int → List ByteArray → Int → Int → Int → Int → Int → Int → List (List Int) → Option (List Int)
  | 0, _, _, _, _, _, _, _, _, _ => none
  | k + 1, x5, x7, x8, x9, x53, x54, x161000, x161001, x161002 => if x54 < x53 then (spec_joFar.l3 k x5 x7 x8 x9 x54 1 x53 x54 x161000 x161001 x161002) else (spec_joFar.l1 k x5 x7 (wrap64 (x8 + 1)) x161000 x161001 x161002)
def spec_joFar.l3 : Nat → List Int → List ByteArray → Int → Int → Int → Int → Int → Int → Int → Int → List (List Int) → Option (List Int)
  | 0, _, _, _, _, _, _, _, _, _, _, _ => none
  | k + 1, x5, x7, x8, x9, x10, x11, x53, x54, x161000, x161001, x161002 => if x11 > (-2) then (if 0 ≤ x8 then (if x8 < (x7.length : Int) then ((spec_joTurn.f k x161000 x161001 x161002 (rdOf ByteArray.empty x7 x8) x10 x11).bind fun t175 => ((spec_whNumber.f k x161000 x161001 t175).bind fun t176 => (if 0 ≤ t176 then (if t176 < (x5.length : Int) then (if (rd x5 t176) < 0 then (if x7.length < 8796093022208 then (spec_joFar.l3 k (x5.set (t176 : Int).toNat (wrap64 (x9 + 1))) (x7 ++ [t175]) x8 x9 x10 (wrap64 (x11 - 2)) x53 x54 x161000 x161001 x161002) else (none)) else (spec_joFar.l3 k x5 x7 x8 x9 x10 (wrap64 (x11 - 2)) x53 x54 x161000 x161001 x161002)) else (none)) else (none)))) else (none)) else (none)) else (spec_joFar.l2 k x5 x7 x8 x9 x53 (wrap64 (x54 + 1)) x161000 x161001 x161002)
end
def spec_joFar.f (k : Nat) (a0_0 : Int) (a0_1 : Int) (l0_2 : List (List Int)) (a1 : ByteArray) : Option (List Int) := (spec_whCount.f k a0_0 a0_1).bind fun t161 => (if 0 ≤ t161 then (if (t161 : Int).toNat ≤ 35184372088832 then ((some (List.replicate (t161 : Int).toNat 0 : List Int)).bind fun y162 => (spec_joFar.l0 k a1 y162 (y162.length : Int) 0 a0_0 a0_1 l0_2)) else (none)) else (none))
theorem spec_joFar.mono_l : ∀ k, (∀ y0 y1 y2 y3 y4 y5 y6, LeO (spec_joFar.l0 k y0 y1 y2 y3 y4 y5 y6) (spec_joFar.l0 (k + 1) y0 y1 y2 y3 y4 y5 y6)) ∧ (∀ y0 y1 y2 y3 y4 y5, LeO (spec_joFar.l1 k y0 y1 y2 y3 y4 y5) (spec_joFar.l1 (k + 1) y0 y1 y2 y3 y4 y5)) ∧ (∀ y0 y1 y2 y3 y4 y5 y6 y7 y8, LeO (spec_joFar.l2 k y0 y1 y2 y3 y4 y5 y6 y7 y8) (spec_joFar.l2 (k + 1) y0 y1 y2 y3 y4 y5 y6 y7 y8)) ∧ (∀ y0 y1 y2 y3 y4 y5 y6 y7 y8 y9 y10, LeO (spec_joFar.l3 k y0 y1 y2 y3 y4 y5 y6 y7 y8 y9 y10) (spec_joFar.l3 (k + 1) y0 y1 y2 y3 y4 y5 y6 y7 y8 y9 y10))
  | 0 => ⟨fun _ _ _ _ _ _ _ r h => by simp [spec_joFar.l0] at h, fun _ _ _ _ _ _ r h => by simp [spec_joFar.l1] at h, fun _ _ _ _ _ _ _ _ _ r h => by simp [spec_joFar.l2] at h, fun _ _ _ _ _ _ _ _ _ _ _ r h => by simp [spec_joFar.l3] at h⟩
  | k + 1 => by
    obtain ⟨ih0, ih1, ih2, ih3⟩ := spec_joFar.mono_l k
    refine ⟨?_, ?_, ?_, ?_⟩
    · intro y0 y1 y2 y3 y4 y5 y6
      unfold spec_joFar.l0
      repeat' first
      | (with_reducible exact ih0 _ _ _ _ _ _ _)
      | (with_reducible exact ih1 _ _ _ _ _ _)
      | (with_reducible exact ih2 _ _ _ _ _ _ _ _ _)
      | (with_reducible exact ih3 _ _ _ _ _ _ _ _ _ _ _)
      | (with_reducible exact spec_joTurn.mono _ _ _ _ _ _ _)
      | (with_reducible exact spec_whCount.mono _ _ _)
      | (with_reducible exact spec_whNumber.mono _ _ _ _)
      | (with_reducible exact LeO.refl _)
      | (with_reducible exact LeO.none _)
      | (with_reducible refine LeO.ite ?_ ?_)
      | (with_reducible refine LeO.bind ?_ (fun _ => ?_))
      | exact ih0 _ _ _ _ _ _ _
      | exact ih1 _ _ _ _ _ _
      | exact ih2 _ _ _ _ _ _ _ _ _
      | exact ih3 _ _ _ _ _ _ _ _ _ _ _
      | exact spec_joTurn.mono _ _ _ _ _ _ _
      | exact spec_whCount.mono _ _ _
      | exact spec_whNumber.mono _ _ _ _
      | exact LeO.none _
      | refine LeO.ite ?_ ?_
      | refine LeO.bind ?_ (fun _ => ?_)
    · intro y0 y1 y2 y3 y4 y5
      unfold spec_joFar.l1
      repeat' first
      | (with_reducible exact ih0 _ _ _ _ _ _ _)
      | (with_reducible exact ih1 _ _ _ _ _ _)
      | (with_reducible exact ih2 _ _ _ _ _ _ _ _ _)
      | (with_reducible exact ih3 _ _ _ _ _ _ _ _ _ _ _)
      | (with_reducible exact spec_joTurn.mono _ _ _ _ _ _ _)
      | (with_reducible exact spec_whCount.mono _ _ _)
      | (with_reducible exact spec_whNumber.mono _ _ _ _)
      | (with_reducible exact LeO.refl _)
      | (with_reducible exact LeO.none _)
      | (with_reducible refine LeO.ite ?_ ?_)
      | (with_reducible refine LeO.bind ?_ (fun _ => ?_))
      | exact ih0 _ _ _ _ _ _ _
      | exact ih1 _ _ _ _ _ _
      | exact ih2 _ _ _ _ _ _ _ _ _
      | exact ih3 _ _ _ _ _ _ _ _ _ _ _
      | exact spec_joTurn.mono _ _ _ _ _ _ _
      | exact spec_whCount.mono _ _ _
      | exact spec_whNumber.mono _ _ _ _
      | exact LeO.none _
      | refine LeO.ite ?_ ?_
      | refine LeO.bind ?_ (fun _ => ?_)
    · intro y0 y1 y2 y3 y4 y5 y6 y7 y8
      unfold spec_joFar.l2
      repeat' first
      | (with_reducible exact ih0 _ _ _ _ _ _ _)
      | (with_reducible exact ih1 _ _ _ _ _ _)
      | (with_reducible exact ih2 _ _ _ _ _ _ _ _ _)
      | (with_reducible exact ih3 _ _ _ _ _ _ _ _ _ _ _)
      | (with_reducible exact spec_joTurn.mono _ _ _ _ _ _ _)
      | (with_reducible exact spec_whCount.mono _ _ _)
      | (with_reducible exact spec_whNumber.mono _ _ _ _)
      | (with_reducible exact LeO.refl _)
      | (with_reducible exact LeO.none _)
      | (with_reducible refine LeO.ite ?_ ?_)
      | (with_reducible refine LeO.bind ?_ (fun _ => ?_))
      | exact ih0 _ _ _ _ _ _ _
      | exact ih1 _ _ _ _ _ _
      | exact ih2 _ _ _ _ _ _ _ _ _
      | exact ih3 _ _ _ _ _ _ _ _ _ _ _
      | exact spec_joTurn.mono _ _ _ _ _ _ _
      | exact spec_whCount.mono _ _ _
      | exact spec_whNumber.mono _ _ _ _
      | exact LeO.none _
      | refine LeO.ite ?_ ?_
      | refine LeO.bind ?_ (fun _ => ?_)
    · intro y0 y1 y2 y3 y4 y5 y6 y7 y8 y9 y10
      unfold spec_joFar.l3
      repeat' first
      | (with_reducible exact ih0 _ _ _ _ _ _ _)
      | (with_reducible exact ih1 _ _ _ _ _ _)
      | (with_reducible exact ih2 _ _ _ _ _ _ _ _ _)
      | (with_reducible exact ih3 _ _ _ _ _ _ _ _ _ _ _)
      | (with_reducible exact spec_joTurn.mono _ _ _ _ _ _ _)
      | (with_reducible exact spec_whCount.mono _ _ _)
      | (with_reducible exact spec_whNumber.mono _ _ _ _)
      | (with_reducible exact LeO.refl _)
      | (with_reducible exact LeO.none _)
      | (with_reducible refine LeO.ite ?_ ?_)
      | (with_reducible refine LeO.bind ?_ (fun _ => ?_))
      | exact ih0 _ _ _ _ _ _ _
      | exact ih1 _ _ _ _ _ _
      | exact ih2 _ _ _ _ _ _ _ _ _
      | exact ih3 _ _ _ _ _ _ _ _ _ _ _
      | exact spec_joTurn.mono _ _ _ _ _ _ _
      | exact spec_whCount.mono _ _ _
      | exact spec_whNumber.mono _ _ _ _
      | exact LeO.none _
      | refine LeO.ite ?_ ?_
      | refine LeO.bind ?_ (fun _ => ?_)
theorem spec_joFar.mono : ∀ a0 a1 a2 a3 k, LeO (spec_joFar.f k a0 a1 a2 a3) (spec_joFar.f (k + 1) a0 a1 a2 a3) := by
  intro a0 a1 a2 a3 k
  obtain ⟨ih0, ih1, ih2, ih3⟩ := spec_joFar.mono_l k
  unfold spec_joFar.f
  repeat' first
      | (with_reducible exact ih0 _ _ _ _ _ _ _)
      | (with_reducible exact ih1 _ _ _ _ _ _)
      | (with_reducible exact ih2 _ _ _ _ _ _ _ _ _)
      | (with_reducible exact ih3 _ _ _ _ _ _ _ _ _ _ _)
      | (with_reducible exact spec_joTurn.mono _ _ _ _ _ _ _)
      | (with_reducible exact spec_whCount.mono _ _ _)
      | (with_reducible exact spec_whNumber.mono _ _ _ _)
      | (with_reducible exact LeO.refl _)
      | (with_reducible exact LeO.none _)
      | (with_reducible refine LeO.ite ?_ ?_)
      | (with_reducible refine LeO.bind ?_ (fun _ => ?_))
      | exact ih0 _ _ _ _ _ _ _
      | exact ih1 _ _ _ _ _ _
      | exact ih2 _ _ _ _ _ _ _ _ _
      | exact ih3 _ _ _ _ _ _ _ _ _ _ _
      | exact spec_joTurn.mono _ _ _ _ _ _ _
      | exact spec_whCount.mono _ _ _
      | exact spec_whNumber.mono _ _ _ _
      | exact LeO.none _
      | refine LeO.ite ?_ ?_
      | refine LeO.bind ?_ (fun _ => ?_)
def spec_joFar.T12 : Bool × List (List Nat × List Nat) := (true, [([], []), ([], []), ([1], [1]), ([], []), ([], []), ([3, 4], [3, 4]), ([5], [5]), ([2, 6], [2, 6]), ([0, 7], [0, 7]), ([8], [8]), ([9, 7, 0, 1, 2, 3, 4, 5, 6, 7, 8, 9], [9])])
def spec_joFar.B12 : List Nat := [0, 0, 2, 0, 0, 24, 56, 126, 255, 511, 1023]
theorem spec_joFar.tab12 : rtab .any (opsOf Try.f35 12) = spec_joFar.T12 := by kernel_rfl
theorem spec_joFar.bits12 : waitsOk spec_joFar.T12.2 spec_joFar.B12 = true := by kernel_rfl
def spec_joFar.T19 : Bool × List (List Nat × List Nat) := (true, [([], []), ([], []), ([], []), ([1, 2], [1, 2]), ([3], [3]), ([], []), ([], []), ([0, 4, 5, 6], [0, 4, 5, 6]), ([7, 7, 0, 1, 2, 3, 4, 5, 6, 7], [7])])
def spec_joFar.B19 : List Nat := [0, 0, 0, 6, 14, 0, 0, 127, 255]
theorem spec_joFar.tab19 : rtab .any (opsOf Try.f35 19) = spec_joFar.T19 := by kernel_rfl
theorem spec_joFar.bits19 : waitsOk spec_joFar.T19.2 spec_joFar.B19 = true := by kernel_rfl
set_option maxHeartbeats 8000000 in
set_option maxRecDepth 100000 in
theorem spec_joFar.calls (k : Nat) (a0_0 : Int) (a0_1 : Int) (A0_2 : Option Addr) (c0_2 : Nat) (l0_2 : List (List Int)) (a1 : ByteArray) (r : List Int) (w : World) (hr0_2 : Kd.C (Kd.slice 3 (Kd.int .i64)) w A0_2 l0_2.length l0_2) (hc0_2 : l0_2.length ≤ c0_2) (h : spec_joFar.f k a0_0 a0_1 l0_2 a1 = some r) :
    Calls Try.prog 35 #[.agg #[.int .i64 a0_0, .int .i64 a0_1, .slice A0_2 l0_2.length c0_2], .string a1] w fun e w' => ∃ v0_ : Value, e = .returned (v0_) ∧ Kd.R (Kd.int .i64) 3 w' w.heap.size (fun _ => True) v0_ r ∧ Below w.heap.size w w' := by
  have hu33 := Try.underlying33
  have hu31 := Try.underlying31
  have HR0_2 := Aside0.mk hr0_2
  have HC0_2 := Aside0.mk hc0_2
  clear hr0_2 hc0_2
  have HB := Aside0.mk (Below.refl w.heap.size w)
  have H : ((spec_whCount.f k a0_0 a0_1).bind fun t161 => (if 0 ≤ t161 then (if (t161 : Int).toNat ≤ 35184372088832 then ((some (List.replicate (t161 : Int).toNat 0 : List Int)).bind fun y162 => (spec_joFar.l0 k a1 y162 (y162.length : Int) 0 a0_0 a0_1 l0_2)) else (none)) else (none))) = some r := h
  clear h
  replace H := Option.bind_eq_some_iff.mp H
  obtain ⟨t161, A30, H⟩ := H
  try dsimp only at H
  have A3 := Aside0.mk A30
  clear A30
  by_cases c4 : 0 ≤ t161
  rotate_left
  · rw [if_neg c4] at H
    exact absurd H (by simp)

  rw [if_pos c4] at H
  have c4b0 := eq_true c4
  have c4b1 : decide (0 ≤ t161) = true := decide_eq_true c4
  clear c4
  by_cases c5 : (t161 : Int).toNat ≤ 35184372088832
  rotate_left
  · rw [if_neg c5] at H
    exact absurd H (by simp)
  rw [if_pos c5] at H
  have c5b0 := eq_true c5
  have c5b1 : decide ((t161 : Int).toNat ≤ 35184372088832) = true := decide_eq_true c5
  clear c5
  obtain ⟨y162, hy162⟩ : ∃ y_ : List Int, y_ = (List.replicate (t161 : Int).toNat 0) := ⟨_, rfl⟩
  replace H : (spec_joFar.l0 k a1 y162 (y162.length : Int) 0 a0_0 a0_1 l0_2) = some r := by first | (rw [hy162]; with_reducible exact H) | (have H2_ := (Option.bind_some _ _).symm.trans H; rw [hy162]; with_reducible exact H2_) | (have H2_ := (Option.bind_some _ _).symm.trans H; with_reducible exact H2_) | with_reducible exact H | (rw [hy162]; exact H) | exact H
  have Ny162 := Aside0.mk hy162
  clear hy162
  have H' := Aside0.mk H
  clear H
  go_enter Try.func35, Try.ntmps35
  go_wp2_with (first | ((with_reducible refine gate_dst (N := 2) rfl ?_); refine box_event ?hg (N := 2) ?hd (cs := #[.int .i64 a0_0, .int .i64 a0_1, .slice A0_2 l0_2.length c0_2]) (t := 33) ?hr ?_; (case hd => rfl); (case hg => rfl); (case hr => first | (go_simp; done) | (go_simp; rfl)); intro gb160 hg w6 hbox hb; have n0_ := bsx hb HB; have n1_ := Aside0.mk (hbox); have n2_ := gwx hg HB; have n3_ := n2_; clear HB; have HB := n0_; have BK160 := n1_; have GW160 := n2_; have GE160 := n3_; clear n0_ n1_ n2_ n3_; clear hb hbox hg; have hcz7_0 : w6.cell? ⟨gb160, 0, none⟩ = some (.int .i64 a0_0) := (blk_cell BK160.out 0).trans rfl; have hcz7_1 : w6.cell? ⟨gb160, 1, none⟩ = some (.int .i64 a0_1) := (blk_cell BK160.out 1).trans rfl; have hcz7_2 : w6.cell? ⟨gb160, 2, none⟩ = some (.slice A0_2 l0_2.length c0_2) := (blk_cell BK160.out 2).trans rfl; have hfz7_0 := blk_frozen BK160.out 0; have hfz7_1 := blk_frozen BK160.out 1; have hfz7_2 := blk_frozen BK160.out 2) | ((with_reducible refine gate_callee (f := 72) rfl ?_); refine goesL_ (some 16) rfl rfl Try.func72 (by kernel_rfl) rfl #[.agg #[.int .i64 a0_0, .int .i64 a0_1]] rfl (by (try simp only [m_1, m_2, m_3]); first | done | rfl | (simp only [m_4, m_5]; rfl)) ?_; (with_reducible refine (spec_whCount.calls k a0_0 a0_1 t161 _ A3.out).mono ?_); rintro e w8 ⟨rfl, hb⟩; refine ⟨_, rfl, ?_⟩; replace BK160 := bbx hb BK160; replace HB := bsx hb HB; skip; (try clear hb); (try clear hb2); (try clear hk); (try clear hi)) | ((with_reducible refine gate_dst (N := 17) rfl ?_); refine Kd.R_make (Kd.int .i64) _ 3 rfl (N := 17) rfl 40 _ _ rfl t161 rfl rfl Try.underlying40 (.int .i64 0) 8 info3 rfl (by decide) (by omega) 0 (ok := fun _ => True) (okp := fun _ => True) rfl (fun _ hk => hk) trivial (of_decide_eq_true (by first | (with_reducible assumption) | assumption)) (Nat.le_trans (Nat.mul_le_mul_right _ (of_decide_eq_true (by first | (with_reducible assumption) | assumption) : t161.toNat ≤ 35184372088832)) (by omega)) (Below.refl _ _) (Nat.le_refl _) ?_; intro v163 w9 ho10 hb hg_ hnew_; clear hg_ hnew_; (first | rw [← Ny162.out] at ho10 | (simp only [Int.reduceToNat] at ho10; rw [← Ny162.out] at ho10)); have n0_ := Aside0.mk (Kd.R_lower ho10 (below_size (bB HB))); replace BK160 := bbx hb BK160; have n2_ := bsx hb HB; clear HB; have HO164 := n0_; have HB := n2_; clear n0_ n2_; clear hb ho10; obtain ⟨Ao11, co11, eo11⟩ := Kd.R_slice HO164.out; subst eo11))
  go_loopg [20] k (fun kq v20 w' => ∃ (x5_1 : List Int) (x20_1 : Int), v20 = .int .i64 x20_1 ∧ Aside0 (spec_joFar.l0 kq a1 x5_1 (y162.length : Int) x20_1 a0_0 a0_1 l0_2 = some r) ∧ Aside0 (kq ≤ k) ∧ Aside0 (Kd.R (Kd.int .i64) 3 w' w.heap.size (fun _ => True) (.slice Ao11 y162.length co11) x5_1) ∧ Aside0 (w'.heap[gb160]? = some (.cells #[.int .i64 a0_0, .int .i64 a0_1, (.slice A0_2 l0_2.length c0_2)] 33 (0, 0))) ∧ Aside0 (Below w.heap.size w w'))
  case atStart => refine ⟨(y162), (0), (by first | rfl | (simp; done) | (simp [*]; done)), H', ⟨Nat.le_refl _⟩, ⟨?_⟩, ⟨?_⟩, ⟨bB HB⟩⟩ <;> (with_reducible repeat (first | refine g_d ?_ _ | refine g_e ?_ | refine g_a ?_ _ | apply r_a | apply r_d | apply r_e)) <;> first | exact BK160.out | exact HO164.out
  clear H'
  try clear c4
  try clear c4b0
  try clear c4b1
  try clear c5
  try clear c5b0
  try clear c5b1
  try clear hcz7_0
  try clear hcz7_1
  try clear hcz7_2
  try clear hfz7_0
  try clear hfz7_1
  try clear hfz7_2
  obtain ⟨x5_1, x20_1, rfl, HA, HK1, HO_5, BK160, HB⟩ := hrel
  have hl5_1 := (Kd.R_reads' HO_5.out).1
  rw [hl5_1] at HO_5
  (try simp only [hl5_1])
  (try simp only [hl5_1] at BK160)
  rcases gk with _ | k1
  · exact absurd HA.out (by simp [spec_joFar.l0])
  have H := HA.out
  clear HA
  simp only [spec_joFar.l0] at H
  by_cases c12 : x20_1 < (y162.length : Int)
  · rw [if_pos c12] at H
    have c12b0 : decide (x20_1 < (y162.length : Int)) = true := decide_eq_true c12
    clear c12
    by_cases c13 : 0 ≤ x20_1
    · rw [if_pos c13] at H
      have c13b0 : decide (0 ≤ x20_1) = true := decide_eq_true c13
      clear c13
      by_cases c14 : x20_1 < (x5_1.length : Int)
      · rw [if_pos c14] at H
        have c14b0 : decide (x20_1 < (x5_1.length : Int)) = true := decide_eq_true c14
        clear c14
        obtain ⟨y165, hy165⟩ : ∃ y_ : List Int, y_ = (x5_1.set (x20_1 : Int).toNat (-1)) := ⟨_, rfl⟩
        replace H : (spec_joFar.l0 k1 a1 y165 (y162.length : Int) (wrap64 (x20_1 + 1)) a0_0 a0_1 l0_2) = some r := by first | (rw [hy165]; with_reducible exact H) | (have H2_ := (Option.bind_some _ _).symm.trans H; rw [hy165]; with_reducible exact H2_) | (have H2_ := (Option.bind_some _ _).symm.trans H; with_reducible exact H2_) | with_reducible exact H | (rw [hy165]; exact H) | exact H
        have Ny165 := Aside0.mk hy165
        clear hy165
        have H' := Aside0.mk H
        clear H
        have p15 : 0 ≤ (x20_1 : Int) := of_decide_eq_true (by first | (with_reducible assumption) | assumption)
        have q15 : (x20_1 : Int) < ((x5_1.length : Int) : Int) := of_decide_eq_true (by first | (with_reducible assumption) | assumption)
        obtain ⟨go15, co15, eo15, gb15, gl15, cl15, HG15⟩ := Kd.R_form HO_5.out (by omega)
        (first | cases eo15 | (injection eo15 with ea_ en_ ec_; (first | subst ea_ | (injection ea_ with ea_; subst ea_)); subst ec_; clear en_))
        have GB15 := Aside0.mk gb15
        have GG15 := Aside0.mk HG15
        clear gb15 gl15 HG15
        obtain ⟨hx15_0, hf15_0⟩ := Kd.R_celln 0 HO_5.out (x20_1 : Int) p15 q15
        replace p15 := eq_true p15
        replace q15 := eq_true q15
        have HP16 := Kd.R_putg HO_5.out (x20_1 : Int) (-1)
        go_wp2_with (first | ((with_reducible refine gate_store (t := 3) (p := 25) rfl ?_); refine store_event (t := 3) (p := 25) (v := ?vo_w17) (w1 := (wr.setCell ⟨go15, (x20_1 : Int).toNat, none⟩ (.int .i64 (-1)))) ?hg ?ho ?hn ?hr ?_; (case ho => rfl); (case hg => rfl); (case hn => rfl); (case hr => first | (go_simp; done) | (go_simp; rfl)); intro w17 hw; have hg : wr.grownBy w17 (some go15) := (by rw [hw]; exact HP16.2); have hp_ : Kd.R (Kd.int .i64) 3 w17 w.heap.size (fun _ => True) (.slice (some ⟨go15, 0, none⟩) x5_1.length co11) y165 := (by rw [hw, Ny165.out]; exact HP16.1); clear HP16; have n0_ := Aside0.mk (hp_); have n1_ := Aside0.mk (blk_grown (g := gb160) (o := .cells #[.int .i64 a0_0, .int .i64 a0_1, .slice A0_2 l0_2.length c0_2] 33 (0, 0)) (bK BK160) hg (Kd.R_ne HO_5.out BK160.out (by decide))); have n2_ := Aside0.mk ((by rw [hw]; exact b_s (HB.out) GB15.out : Below w.heap.size w w17)); clear HO_5; clear BK160; clear HB; have HO_5 := n0_; have BK160 := n1_; have HB := n2_; clear n0_ n1_ n2_; clear hg hw hp_))
        (try simp only [← hl5_1])
        go_roundg k1
        case measure => have := HK1.out; omega
        case rel => exact ⟨(y165), (wrap64 (x20_1 + 1)), (by first | rfl | (simp; done) | (simp [*]; done)), H', ⟨by have := HK1.out; omega⟩, ⟨by (try simp only [hl5_1]); (with_reducible repeat (first | apply r_a | apply r_d | apply r_e)); exact HO_5.out⟩, ⟨by (try simp only [hl5_1]); (with_reducible repeat (first | refine g_d ?_ _ | refine g_e ?_ | refine g_a ?_ _)); exact BK160.out⟩, ⟨bB HB⟩⟩
      · rw [if_neg c14] at H
        exact absurd H (by simp)
    · rw [if_neg c13] at H
      exact absurd H (by simp)
  rw [if_neg c12] at H
  have c12b0 : decide (x20_1 < (y162.length : Int)) = false := decide_eq_false c12
  (try simp only [hl5_1] at c12b0)
  (try simp only [hl5_2] at c12b0)
  (try simp only [hl5_3] at c12b0)
  (try simp only [hl5_4] at c12b0)
  clear c12
  replace H := Option.bind_eq_some_iff.mp H
  obtain ⟨t166, A180, H⟩ := H
  try dsimp only at H
  have A18 := Aside0.mk A180
  clear A180
  by_cases c19 : 0 ≤ t166
  rotate_left
  · rw [if_neg c19] at H
    exact absurd H (by simp)
  rw [if_pos c19] at H
  have c19b0 : decide (0 ≤ t166) = true := decide_eq_true c19
  clear c19
  by_cases c20 : t166 < (x5_1.length : Int)
  rotate_left
  · rw [if_neg c20] at H
    exact absurd H (by simp)
  rw [if_pos c20] at H
  have c20b0 : decide (t166 < (x5_1.length : Int)) = true := decide_eq_true c20
  clear c20
  obtain ⟨y167, hy167⟩ : ∃ y_ : List Int, y_ = (x5_1.set (t166 : Int).toNat 0) := ⟨_, rfl⟩
  replace H : (spec_joFar.l1 k1 y167 (([a1] : List ByteArray)) 0 a0_0 a0_1 l0_2) = some r := by first | (rw [hy167]; with_reducible exact H) | (have H2_ := (Option.bind_some _ _).symm.trans H; rw [hy167]; with_reducible exact H2_) | (have H2_ := (Option.bind_some _ _).symm.trans H; with_reducible exact H2_) | with_reducible exact H | (rw [hy167]; exact H) | exact H
  have Ny167 := Aside0.mk hy167
  clear hy167
  obtain ⟨y168, hy168⟩ : ∃ y_ : List ByteArray, y_ = (([a1] : List ByteArray)) := ⟨_, rfl⟩
  replace H : (spec_joFar.l1 k1 y167 y168 0 a0_0 a0_1 l0_2) = some r := by first | (rw [hy168]; with_reducible exact H) | (have H2_ := (Option.bind_some _ _).symm.trans H; rw [hy168]; with_reducible exact H2_) | (have H2_ := (Option.bind_some _ _).symm.trans H; with_reducible exact H2_) | with_reducible exact H | (rw [hy168]; exact H) | exact H
  have Ny168 := Aside0.mk hy168
  clear hy168
  have H' := Aside0.mk H
  clear H
  have hcz22_0 : wr.cell? ⟨gb160, 0, none⟩ = some (.int .i64 a0_0) := (blk_cell BK160.out 0).trans rfl
  have hcz22_1 : wr.cell? ⟨gb160, 1, none⟩ = some (.int .i64 a0_1) := (blk_cell BK160.out 1).trans rfl
  have hcz22_2 : wr.cell? ⟨gb160, 2, none⟩ = some (.slice A0_2 l0_2.length c0_2) := (blk_cell BK160.out 2).trans rfl
  have hfz22_0 := blk_frozen BK160.out 0
  have hfz22_1 := blk_frozen BK160.out 1
  have hfz22_2 := blk_frozen BK160.out 2
  go_wp2_with (first | ((with_reducible refine gate_callee (f := 36) rfl ?_); refine goesL_ (some 31) rfl rfl Try.func36 (by kernel_rfl) rfl #[.agg #[.int .i64 a0_0, .int .i64 a0_1], .string a1] rfl (by (try simp only [m_1, m_2, m_3]); first | done | rfl | (simp only [m_4, m_5]; rfl)) ?_; (with_reducible refine (spec_whNumber.calls k1 a0_0 a0_1 a1 t166 _ A18.out).mono ?_); rintro e w23 ⟨rfl, hb⟩; refine ⟨_, rfl, ?_⟩; have n0_ := Aside0.mk (Kd.R_below (by (with_reducible repeat (first | apply r_a | apply r_d | apply r_e)); exact HO_5.out) hb); replace BK160 := bbx hb BK160; replace HB := bsx hb HB; clear HO_5; have HO_5 := n0_; clear n0_; (try clear hb); (try clear hb2); (try clear hk); (try clear hi); have p21 : 0 ≤ (t166 : Int) := of_decide_eq_true (by first | (with_reducible assumption) | assumption); have q21 : (t166 : Int) < ((x5_1.length : Int) : Int) := of_decide_eq_true (by first | (with_reducible assumption) | assumption); obtain ⟨go21, co21, eo21, gb21, gl21, cl21, HG21⟩ := Kd.R_form HO_5.out (by omega); (first | cases eo21 | (injection eo21 with ea_ en_ ec_; (first | subst ea_ | (injection ea_ with ea_; subst ea_)); subst ec_; clear en_)); have GB21 := Aside0.mk gb21; have GG21 := Aside0.mk HG21; clear gb21 gl21 HG21; obtain ⟨hx21_0, hf21_0⟩ := Kd.R_celln 0 HO_5.out (t166 : Int) p21 q21; replace p21 := eq_true p21; replace q21 := eq_true q21; obtain ⟨hy24_, hz24_⟩ := Kd.R_celln 0 HO_5.out (t166 : Int) (of_decide_eq_true (by first | (with_reducible assumption) | assumption)) (of_decide_eq_true (by first | (with_reducible assumption) | assumption)); have HP24 := Kd.R_putg HO_5.out (t166 : Int) 0) | ((with_reducible refine gate_store (t := 3) (p := 32) rfl ?_); refine store_event (t := 3) (p := 32) (v := ?vo_w25) (w1 := (w23.setCell ⟨go21, (t166 : Int).toNat, none⟩ (.int .i64 0))) ?hg ?ho ?hn ?hr ?_; (case ho => rfl); (case hg => rfl); (case hn => rfl); (case hr => first | (go_simp; done) | (go_simp; rfl)); intro w25 hw; have hg : w23.grownBy w25 (some go21) := (by rw [hw]; exact HP24.2); have hp_ : Kd.R (Kd.int .i64) 3 w25 w.heap.size (fun _ => True) (.slice (some ⟨go21, 0, none⟩) x5_1.length co11) y167 := (by rw [hw, Ny167.out]; exact HP24.1); clear HP24; have n0_ := Aside0.mk (hp_); have n1_ := Aside0.mk (blk_grown (g := gb160) (o := .cells #[.int .i64 a0_0, .int .i64 a0_1, .slice A0_2 l0_2.length c0_2] 33 (0, 0)) (bK BK160) hg (Kd.R_ne HO_5.out BK160.out (by decide))); have n2_ := Aside0.mk ((by rw [hw]; exact b_s (HB.out) GB21.out : Below w.heap.size w w25)); clear HO_5; clear BK160; clear HB; have HO_5 := n0_; have BK160 := n1_; have HB := n2_; clear n0_ n1_ n2_; clear hg hw hp_) | ((with_reducible refine gate_dst (N := 34) rfl ?_); refine Kd.R_lit Kd.string _ 9 ?hg (N := 34) ?hd (xs := ([a1] : List ByteArray)) (inner := [.string a1]) (ok := fun _ => True) (okp := fun _ => True) ?hr ?hp (fun _ hk => hk) trivial (Below.refl _ _) (Nat.le_refl _) (by simp) ?_; (case hd => rfl); (case hg => rfl); (case hr => first | (go_simp; done) | (go_simp; rfl)); (case hp => exact (Reps.one (show Kd.M Kd.string _ _ _ a1 [.string a1] from rfl) (Reps.none _ _))); intro v169 w26 ho27 hb hg_ hnew_; clear hg_ hnew_; (first | rw [← Ny168.out] at ho27 | (simp only [Int.reduceToNat] at ho27; rw [← Ny168.out] at ho27)); have n0_ := Aside0.mk (Kd.R_below (by (with_reducible repeat (first | apply r_a | apply r_d | apply r_e)); exact HO_5.out) hb); have n1_ := Aside0.mk (Kd.R_lower ho27 (below_size (bB HB))); replace BK160 := bbx hb BK160; have n3_ := bsx hb HB; clear HO_5; clear HB; have HO_5 := n0_; have HO170 := n1_; have HB := n3_; clear n0_ n1_ n3_; clear hb ho27))
  go_loopg [7, 8] k1 (fun kq v7 v8 w' => ∃ (x5_2 : List Int) (x7_2 : List ByteArray) (x8_2 : Int), v8 = .int .i64 x8_2 ∧ Aside0 (spec_joFar.l1 kq x5_2 x7_2 x8_2 a0_0 a0_1 l0_2 = some r) ∧ Aside0 (kq ≤ k1) ∧ Aside0 (Kd.R (Kd.int .i64) 3 w' w.heap.size (fun _ => True) (.slice (some ⟨go21, 0, none⟩) x5_1.length co11) x5_2) ∧ Aside0 (Kd.R Kd.string 9 w' w.heap.size (fun _ => True) v7 x7_2) ∧ Aside0 (w'.heap[gb160]? = some (.cells #[.int .i64 a0_0, .int .i64 a0_1, (.slice A0_2 l0_2.length c0_2)] 33 (0, 0))) ∧ Aside0 (Below w.heap.size w w'))
  case atStart => exact ⟨(y167), (y168), (0), (by first | rfl | (simp; done) | (simp [*]; done)), H', ⟨Nat.le_refl _⟩, ⟨by (try simp only [hl5_1]); (with_reducible repeat (first | apply r_a | apply r_d | apply r_e)); exact HO_5.out⟩, ⟨by (try simp only [hl5_1]); (with_reducible repeat (first | apply r_a | apply r_d | apply r_e)); exact HO170.out⟩, ⟨by (try simp only [hl5_1]); (with_reducible repeat (first | refine g_d ?_ _ | refine g_e ?_ | refine g_a ?_ _)); exact BK160.out⟩, ⟨bB HB⟩⟩
  clear H'
  try clear c12
  try clear c12b0
  try clear c19
  try clear c19b0
  try clear c20
  try clear c20b0
  try clear p21
  try clear q21
  try clear hcz22_0
  try clear hcz22_1
  try clear hcz22_2
  try clear hfz22_0
  try clear hfz22_1
  try clear hfz22_2
  try clear hx21_0
  obtain ⟨x5_2, x7_2, x8_2, rfl, HA, HK2, HO_5, HO_7, BK160, HB⟩ := hrel
  have hl5_2 := (Kd.R_reads' HO_5.out).1
  rw [hl5_2] at HO_5
  (try simp only [hl5_2])
  (try simp only [hl5_2] at BK160)
  (try simp only [hl5_2] at HO_7)
  rcases gk with _ | k2
  · exact absurd HA.out (by simp [spec_joFar.l1])
  have H := HA.out
  clear HA
  simp only [spec_joFar.l1] at H
  by_cases c28 : x8_2 < (x7_2.length : Int)
  rotate_left
  · rw [if_neg c28] at H
    have c28b0 : decide (x8_2 < (x7_2.length : Int)) = false := decide_eq_false c28
    (try simp only [hl5_1] at c28b0)
    (try simp only [hl5_2] at c28b0)
    (try simp only [hl5_3] at c28b0)
    (try simp only [hl5_4] at c28b0)
    clear c28
    obtain rfl := Option.some.inj H
    obtain ⟨Ao61, co61, eo61⟩ := Kd.R_slice HO_7.out
    subst eo61
    go_wp2
    go_ret
    exact ⟨_, by first | rfl | (simp [errW_none, errW_some] <;> rfl) | (simp [*, errW_none, errW_some] <;> rfl), by (with_reducible repeat (first | apply r_a | apply r_d | apply r_e)); exact HO_5.out, bB HB⟩
  rw [if_pos c28] at H
  have c28b0 : decide (x8_2 < (x7_2.length : Int)) = true := decide_eq_true c28
  clear c28
  by_cases c29 : 0 ≤ x8_2
  rotate_left
  · rw [if_neg c29] at H
    exact absurd H (by simp)
  rw [if_pos c29] at H
  have c29b0 : decide (0 ≤ x8_2) = true := decide_eq_true c29
  clear c29
  replace H := Option.bind_eq_some_iff.mp H
  obtain ⟨t172, A300, H⟩ := H
  try dsimp only at H
  have A30 := Aside0.mk A300
  clear A300
  by_cases c31 : 0 ≤ t172
  rotate_left
  · rw [if_neg c31] at H
    exact absurd H (by simp)
  rw [if_pos c31] at H
  have c31b0 : decide (0 ≤ t172) = true := decide_eq_true c31
  clear c31
  by_cases c32 : t172 < (x5_2.length : Int)
  rotate_left
  · rw [if_neg c32] at H
    exact absurd H (by simp)
  rw [if_pos c32] at H
  have c32b0 : decide (t172 < (x5_2.length : Int)) = true := decide_eq_true c32
  clear c32
  have H' := Aside0.mk H
  clear H
  obtain ⟨Ao33, co33, eo33⟩ := Kd.R_slice HO_7.out
  subst eo33
  try go_wp2
  have n0_ := Aside0.mk (r_e HO_5.out)
  have n1_ := Aside0.mk (r_e HO_7.out)
  have n2_ := Aside0.mk (g_e BK160.out)
  have n3_ := Aside0.mk (b_e HB.out)
  clear HO_5
  clear HO_7
  clear BK160
  clear HB
  have HO_5 := n0_
  have HO_7 := n1_
  have BK160 := n2_
  have HB := n3_
  clear n0_ n1_ n2_ n3_
  have p171 : 0 ≤ (x8_2 : Int) := of_decide_eq_true (by first | (with_reducible assumption) | assumption)
  have q171 : x8_2 < (x7_2.length : Int) := of_decide_eq_true (by first | (with_reducible assumption) | assumption)
  obtain ⟨ad171, e171, hx171_0⟩ := Kd.at_string (Kd.R_reads' HO_7.out).2.2 x8_2 p171 q171
  cases e171
  replace p171 := eq_true p171
  replace q171 := eq_true q171
  have p173 : 0 ≤ (t172 : Int) := of_decide_eq_true (by first | (with_reducible assumption) | assumption)
  have q173 : t172 < (x5_2.length : Int) := of_decide_eq_true (by first | (with_reducible assumption) | assumption)
  obtain ⟨ad173, e173, hx173_0⟩ := Kd.at_int (Kd.R_reads' HO_5.out).2.2 t172 p173 q173
  obtain rfl : (⟨go21, 0, none⟩ : Addr) = ad173 := (by injection e173)
  (first | simp only [add_plain] at hx173_0 | simp only [add_at] at hx173_0 | simp only [Addr.add, Nat.zero_add] at hx173_0 | skip)
  replace p173 := eq_true p173
  replace q173 := eq_true q173
  refine start_ (n := 11) (S := fun w' => w'.cell? ⟨gb160, 0, none⟩ = some (.int .i64 a0_0) ∧ w'.cell? ⟨gb160, 1, none⟩ = some (.int .i64 a0_1) ∧ w'.cell? ⟨gb160, 2, none⟩ = some (.slice A0_2 l0_2.length c0_2) ∧ w'.cell? (ad171.add (x8_2).toNat) = some (.string (rdOf ByteArray.empty x7_2 x8_2)) ∧ w'.cell? ⟨go21, (t172).toNat, none⟩ = some (.int .i64 (rd x5_2 t172))) (ds := []) (bs_ 11 0) (by kernel_rfl) rfl rfl ⟨(blk_cell BK160.out 0).trans rfl, (blk_cell BK160.out 1).trans rfl, (blk_cell BK160.out 2).trans rfl, hx171_0, hx173_0⟩ (fun hHeld => ?_); refine with_tabW spec_joFar.tab12 spec_joFar.bits12 (fun HT_ HW_ => ?_)
  generalize wr.drew = w34 at HO_5 HO_7 BK160 HB hx171_0 hx173_0 hHeld ⊢
  refine pua 0 41 (bs_ 11 1) HT_ ?_
  refine pua 1 42 (bs_ 11 3) HT_ ?_
  refine pua 3 44 (bs_ 11 11) HT_ ?_
  refine pua 4 45 (bs_ 11 27) HT_ ?_
  refine pua 5 46 (bs_ 11 59) HT_ ?_
  refine tk_ 2 43 (bs_ 11 63) rfl rfl HT_ HW_ (by kernel_rfl) (fun _ _ _ h => h) (by rfl) hHeld (by rintro w' ⟨s0, s1, s2, s3, s4⟩; go_simp; with_reducible rfl) (by simp only [Act.put, s_1, s_2, s_3, i64_w, i32_w]; rfl) ?_
  refine tk_ 6 47 (bs_ 11 127) rfl rfl HT_ HW_ (by kernel_rfl) (fun _ _ _ h => h) (by rfl) hHeld (by rintro w' ⟨s0, s1, s2, s3, s4⟩; go_simp; with_reducible rfl) (by simp only [Act.put, s_1, s_2, s_3, i64_w, i32_w]; rfl) ?_
  refine one_ (i := 7) (N := some 48) (bs_ 11 255) rfl rfl (one_of HT_.out (by kernel_rfl)) (by decide) (fun K hK => ?_)
  refine goes_ Try.func36 (by kernel_rfl) rfl #[.agg #[.int .i64 a0_0, .int .i64 a0_1], .string (rdOf ByteArray.empty x7_2 x8_2)] (by rfl) rfl rfl (by (try simp only [m_1, m_2, m_3]); first | done | rfl | (simp only [m_4, m_5]; rfl)) ?_
  with_reducible refine (spec_whNumber.calls k2 a0_0 a0_1 (rdOf ByteArray.empty x7_2 x8_2) t172 _ A30.out).mono ?_
  rintro e w35 ⟨rfl, hb⟩
  have HS3_ := (hb.cell (World.block_lt_of_cell? _ _ (hHeld.2.2.2.1))).trans (hHeld.2.2.2.1)
  have HS4_ := (hb.cell (World.block_lt_of_cell? _ _ (hHeld.2.2.2.2))).trans (hHeld.2.2.2.2)
  refine ⟨_, rfl, ?_⟩
  have n0_ := Aside0.mk (Kd.R_below (by (with_reducible repeat (first | apply r_a | apply r_d | apply r_e)); exact HO_5.out) hb)
  have n1_ := Aside0.mk (Kd.R_below (by (with_reducible repeat (first | apply r_a | apply r_d | apply r_e)); exact HO_7.out) hb)
  have n2_ := bbx hb BK160
  have n3_ := bsx hb HB
  clear HO_5
  clear HO_7
  clear BK160
  clear HB
  have HO_5 := n0_
  have HO_7 := n1_
  have BK160 := n2_
  have HB := n3_
  clear n0_ n1_ n2_ n3_
  (try clear hb)
  (try clear hb2)
  (try clear hk)
  (try clear hi)
  refine hK.out _ _ ⟨(blk_cell BK160.out 0).trans rfl, (blk_cell BK160.out 1).trans rfl, (blk_cell BK160.out 2).trans rfl, HS3_, HS4_⟩ (fun hHeld => ?_)
  clear hK K
  refine norm_ (a' := ?_) ?_ ?_
  rotate_left
  · show Act.put _ (some 48) _ = _
    simp only [Act.put, s_1, s_2, s_3, i64_w, i32_w]
    rfl
  refine pua 8 49 (bs_ 11 511) HT_ ?_
  refine tk_ 9 50 (bs_ 11 1023) rfl rfl HT_ HW_ (by kernel_rfl) (fun _ _ _ h => h) (by rfl) hHeld (by rintro w' ⟨s0, s1, s2, s3, s4⟩; go_simp; with_reducible rfl) (by simp only [Act.put, s_1, s_2, s_3, i64_w, i32_w]; rfl) ?_
  refine pua 10 9 (bs_ 11 2047) HT_ ?_
  refine done_ (done_of HT_.out (by kernel_rfl)) ?_
  have hcz36_0 : w35.cell? ⟨gb160, 0, none⟩ = some (.int .i64 a0_0) := (blk_cell BK160.out 0).trans rfl
  have hcz36_1 : w35.cell? ⟨gb160, 1, none⟩ = some (.int .i64 a0_1) := (blk_cell BK160.out 1).trans rfl
  have hcz36_2 : w35.cell? ⟨gb160, 2, none⟩ = some (.slice A0_2 l0_2.length c0_2) := (blk_cell BK160.out 2).trans rfl
  have hfz36_0 := blk_frozen BK160.out 0
  have hfz36_1 := blk_frozen BK160.out 1
  have hfz36_2 := blk_frozen BK160.out 2
  try go_wp2
  go_loopg [7, 54] k2 (fun kq v7 v54 w' => ∃ (x5_3 : List Int) (x7_3 : List ByteArray) (x54_3 : Int), v54 = .int .i64 x54_3 ∧ Aside0 (spec_joFar.l2 kq x5_3 x7_3 x8_2 (rd x5_2 t172) (l0_2.length : Int) x54_3 a0_0 a0_1 l0_2 = some r) ∧ Aside0 (kq ≤ k2) ∧ Aside0 (Kd.R (Kd.int .i64) 3 w' w.heap.size (fun _ => True) (.slice (some ⟨go21, 0, none⟩) x5_2.length co11) x5_3) ∧ Aside0 (Kd.R Kd.string 9 w' w.heap.size (fun _ => True) v7 x7_3) ∧ Aside0 (w'.heap[gb160]? = some (.cells #[.int .i64 a0_0, .int .i64 a0_1, (.slice A0_2 l0_2.length c0_2)] 33 (0, 0))) ∧ Aside0 (Below w.heap.size w w'))
  case atStart => exact ⟨(x5_2), (x7_2), (0), (by first | rfl | (simp; done) | (simp [*]; done)), H', ⟨Nat.le_refl _⟩, ⟨by (try simp only [hl5_1]); (try simp only [hl5_2]); (with_reducible repeat (first | apply r_a | apply r_d | apply r_e)); exact HO_5.out⟩, ⟨by (try simp only [hl5_1]); (try simp only [hl5_2]); (with_reducible repeat (first | apply r_a | apply r_d | apply r_e)); exact HO_7.out⟩, ⟨by (try simp only [hl5_1]); (try simp only [hl5_2]); (with_reducible repeat (first | refine g_d ?_ _ | refine g_e ?_ | refine g_a ?_ _)); exact BK160.out⟩, ⟨bB HB⟩⟩
  clear H'
  try clear c28
  try clear c28b0
  try clear c29
  try clear c29b0
  try clear c31
  try clear c31b0
  try clear c32
  try clear c32b0
  try clear hcz36_0
  try clear hcz36_1
  try clear hcz36_2
  try clear hfz36_0
  try clear hfz36_1
  try clear hfz36_2
  try clear hx171_0
  try clear hx173_0
  try clear p171
  try clear p173
  try clear q171
  try clear q173
  obtain ⟨x5_3, x7_3, x54_3, rfl, HA, HK3, HO_5, HO_7, BK160, HB⟩ := hrel
  have hl5_3 := (Kd.R_reads' HO_5.out).1
  rw [hl5_3] at HO_5
  (try simp only [hl5_3])
  (try simp only [hl5_3] at BK160)
  (try simp only [hl5_3] at HO_7)
  rcases gk with _ | k3
  · exact absurd HA.out (by simp [spec_joFar.l2])
  have H := HA.out
  clear HA
  simp only [spec_joFar.l2] at H
  by_cases c37 : x54_3 < (l0_2.length : Int)
  rotate_left
  · rw [if_neg c37] at H
    have c37b0 : decide (x54_3 < (l0_2.length : Int)) = false := decide_eq_false c37
    (try simp only [hl5_1] at c37b0)
    (try simp only [hl5_2] at c37b0)
    (try simp only [hl5_3] at c37b0)
    (try simp only [hl5_4] at c37b0)
    clear c37
    have H' := Aside0.mk H
    clear H
    go_wp2
    (try simp only [← hl5_2, ← hl5_3])
    go_roundg k3
    case measure => have := HK1.out; have := HK2.out; have := HK3.out; omega
    case rel => exact ⟨(x5_3), (x7_3), (wrap64 (x8_2 + 1)), (by first | rfl | (simp; done) | (simp [*]; done)), H', ⟨by have := HK1.out; have := HK2.out; have := HK3.out; omega⟩, ⟨by (try simp only [hl5_1]); (try simp only [hl5_2]); (try simp only [hl5_3]); (with_reducible repeat (first | apply r_a | apply r_d | apply r_e)); exact HO_5.out⟩, ⟨by (try simp only [hl5_1]); (try simp only [hl5_2]); (try simp only [hl5_3]); (with_reducible repeat (first | apply r_a | apply r_d | apply r_e)); exact HO_7.out⟩, ⟨by (try simp only [hl5_1]); (try simp only [hl5_2]); (try simp only [hl5_3]); (with_reducible repeat (first | refine g_d ?_ _ | refine g_e ?_ | refine g_a ?_ _)); exact BK160.out⟩, ⟨bB HB⟩⟩
  rw [if_pos c37] at H
  have c37b0 : decide (x54_3 < (l0_2.length : Int)) = true := decide_eq_true c37
  clear c37
  have H' := Aside0.mk H
  clear H
  go_wp2
  go_loopg [7, 11] k3 (fun kq v7 v11 w' => ∃ (x5_4 : List Int) (x7_4 : List ByteArray) (x11_4 : Int), v11 = .int .i64 x11_4 ∧ Aside0 (spec_joFar.l3 kq x5_4 x7_4 x8_2 (rd x5_2 t172) x54_3 x11_4 (l0_2.length : Int) x54_3 a0_0 a0_1 l0_2 = some r) ∧ Aside0 (kq ≤ k3) ∧ Aside0 (Kd.R (Kd.int .i64) 3 w' w.heap.size (fun _ => True) (.slice (some ⟨go21, 0, none⟩) x5_3.length co11) x5_4) ∧ Aside0 (Kd.R Kd.string 9 w' w.heap.size (fun _ => True) v7 x7_4) ∧ Aside0 (w'.heap[gb160]? = some (.cells #[.int .i64 a0_0, .int .i64 a0_1, (.slice A0_2 l0_2.length c0_2)] 33 (0, 0))) ∧ Aside0 (Below w.heap.size w w'))
  case atStart => exact ⟨(x5_3), (x7_3), (1), (by first | rfl | (simp; done) | (simp [*]; done)), H', ⟨Nat.le_refl _⟩, ⟨by (try simp only [hl5_1]); (try simp only [hl5_2]); (try simp only [hl5_3]); (with_reducible repeat (first | apply r_a | apply r_d | apply r_e)); exact HO_5.out⟩, ⟨by (try simp only [hl5_1]); (try simp only [hl5_2]); (try simp only [hl5_3]); (with_reducible repeat (first | apply r_a | apply r_d | apply r_e)); exact HO_7.out⟩, ⟨by (try simp only [hl5_1]); (try simp only [hl5_2]); (try simp only [hl5_3]); (with_reducible repeat (first | refine g_d ?_ _ | refine g_e ?_ | refine g_a ?_ _)); exact BK160.out⟩, ⟨bB HB⟩⟩
  clear H'
  try clear c37
  try clear c37b0
  obtain ⟨x5_4, x7_4, x11_4, rfl, HA, HK4, HO_5, HO_7, BK160, HB⟩ := hrel
  have hl5_4 := (Kd.R_reads' HO_5.out).1
  rw [hl5_4] at HO_5
  (try simp only [hl5_4])
  (try simp only [hl5_4] at BK160)
  (try simp only [hl5_4] at HO_7)
  rcases gk with _ | k4
  · exact absurd HA.out (by simp [spec_joFar.l3])
  have H := HA.out
  clear HA
  simp only [spec_joFar.l3] at H
  by_cases c38 : x11_4 > (-2)
  rotate_left
  · rw [if_neg c38] at H
    have c38b0 : decide ((-2) < x11_4) = false := decide_eq_false c38
    (try simp only [hl5_1] at c38b0)
    (try simp only [hl5_2] at c38b0)
    (try simp only [hl5_3] at c38b0)
    (try simp only [hl5_4] at c38b0)
    clear c38
    have H' := Aside0.mk H
    clear H
    go_wp2
    (try simp only [← hl5_3, ← hl5_4])
    go_roundg k4
    case measure => have := HK1.out; have := HK2.out; have := HK3.out; have := HK4.out; omega
    case rel => exact ⟨(x5_4), (x7_4), (wrap64 (x54_3 + 1)), (by first | rfl | (simp; done) | (simp [*]; done)), H', ⟨by have := HK1.out; have := HK2.out; have := HK3.out; have := HK4.out; omega⟩, ⟨by (try simp only [hl5_1]); (try simp only [hl5_2]); (try simp only [hl5_3]); (try simp only [hl5_4]); (with_reducible repeat (first | apply r_a | apply r_d | apply r_e)); exact HO_5.out⟩, ⟨by (try simp only [hl5_1]); (try simp only [hl5_2]); (try simp only [hl5_3]); (try simp only [hl5_4]); (with_reducible repeat (first | apply r_a | apply r_d | apply r_e)); exact HO_7.out⟩, ⟨by (try simp only [hl5_1]); (try simp only [hl5_2]); (try simp only [hl5_3]); (try simp only [hl5_4]); (with_reducible repeat (first | refine g_d ?_ _ | refine g_e ?_ | refine g_a ?_ _)); exact BK160.out⟩, ⟨bB HB⟩⟩
  rw [if_pos c38] at H
  have c38b0 : decide ((-2) < x11_4) = true := decide_eq_true c38
  clear c38
  by_cases c39 : 0 ≤ x8_2
  rotate_left
  · rw [if_neg c39] at H
    exact absurd H (by simp)
  rw [if_pos c39] at H
  have c39b0 : decide (0 ≤ x8_2) = true := decide_eq_true c39
  clear c39
  by_cases c40 : x8_2 < (x7_4.length : Int)
  rotate_left
  · rw [if_neg c40] at H
    exact absurd H (by simp)
  rw [if_pos c40] at H
  have c40b0 : decide (x8_2 < (x7_4.length : Int)) = true := decide_eq_true c40
  clear c40
  replace H := Option.bind_eq_some_iff.mp H
  obtain ⟨t175, A410, H⟩ := H
  try dsimp only at H
  have A41 := Aside0.mk A410
  clear A410
  replace H := Option.bind_eq_some_iff.mp H
  obtain ⟨t176, A420, H⟩ := H
  try dsimp only at H
  have A42 := Aside0.mk A420
  clear A420
  by_cases c43 : 0 ≤ t176
  rotate_left
  · rw [if_neg c43] at H
    exact absurd H (by simp)
  rw [if_pos c43] at H
  have c43b0 : decide (0 ≤ t176) = true := decide_eq_true c43
  clear c43
  by_cases c44 : t176 < (x5_4.length : Int)
  rotate_left
  · rw [if_neg c44] at H
    exact absurd H (by simp)
  rw [if_pos c44] at H
  have c44b0 : decide (t176 < (x5_4.length : Int)) = true := decide_eq_true c44
  clear c44
  by_cases c45 : (rd x5_4 t176) < 0
  rotate_left
  · rw [if_neg c45] at H
    have c45b0 : decide ((rd x5_4 t176) < 0) = false := decide_eq_false c45
    (try simp only [hl5_1] at c45b0)
    (try simp only [hl5_2] at c45b0)
    (try simp only [hl5_3] at c45b0)
    (try simp only [hl5_4] at c45b0)
    clear c45
    have H' := Aside0.mk H
    clear H
    try go_wp2
    have n0_ := Aside0.mk (r_e HO_5.out)
    have n1_ := Aside0.mk (r_e HO_7.out)
    have n2_ := Aside0.mk (g_e BK160.out)
    have n3_ := Aside0.mk (b_e HB.out)
    clear HO_5
    clear HO_7
    clear BK160
    clear HB
    have HO_5 := n0_
    have HO_7 := n1_
    have BK160 := n2_
    have HB := n3_
    clear n0_ n1_ n2_ n3_
    obtain ⟨Ao57, co57, eo57⟩ := Kd.R_slice HO_7.out
    (first | subst eo57 | (injection eo57 with f1_ f2_ f3_; have f4_ := f1_.symm; have f5_ := f3_.symm; clear f1_ f2_ f3_; subst f4_; subst f5_))
    have p174 : 0 ≤ (x8_2 : Int) := of_decide_eq_true (by first | (with_reducible assumption) | assumption)
    have q174 : x8_2 < (x7_4.length : Int) := of_decide_eq_true (by first | (with_reducible assumption) | assumption)
    obtain ⟨ad174, e174, hx174_0⟩ := Kd.at_string (Kd.R_reads' HO_7.out).2.2 x8_2 p174 q174
    cases e174
    replace p174 := eq_true p174
    replace q174 := eq_true q174
    refine start_ (n := 9) (S := fun w' => w'.cell? ⟨gb160, 0, none⟩ = some (.int .i64 a0_0) ∧ w'.cell? ⟨gb160, 1, none⟩ = some (.int .i64 a0_1) ∧ w'.cell? ⟨gb160, 2, none⟩ = some (.slice A0_2 l0_2.length c0_2) ∧ w'.cell? (ad174.add (x8_2).toNat) = some (.string (rdOf ByteArray.empty x7_4 x8_2))) (ds := []) (bs_ 9 0) (by kernel_rfl) rfl rfl ⟨(blk_cell BK160.out 0).trans rfl, (blk_cell BK160.out 1).trans rfl, (blk_cell BK160.out 2).trans rfl, hx174_0⟩ (fun hHeld => ?_); refine with_tabW spec_joFar.tab19 spec_joFar.bits19 (fun HT_ HW_ => ?_)
    generalize wr.drew = w56 at HO_5 HO_7 BK160 HB hx174_0 hHeld ⊢
    refine pua 1 62 (bs_ 9 2) HT_ ?_
    refine pua 2 63 (bs_ 9 6) HT_ ?_
    refine pua 3 64 (bs_ 9 14) HT_ ?_
    refine pua 5 66 (bs_ 9 46) HT_ ?_
    refine pua 6 67 (bs_ 9 110) HT_ ?_
    refine tk_ 0 61 (bs_ 9 111) rfl rfl HT_ HW_ (by kernel_rfl) (fun _ _ _ h => h) (by rfl) hHeld (by rintro w' ⟨s0, s1, s2, s3⟩; go_simp; with_reducible rfl) (by simp only [Act.put, s_1, s_2, s_3, i64_w, i32_w]; rfl) ?_
    refine tk_ 4 65 (bs_ 9 127) rfl rfl HT_ HW_ (by kernel_rfl) (fun _ _ _ h => h) (by rfl) hHeld (by rintro w' ⟨s0, s1, s2, s3⟩; go_simp; with_reducible rfl) (by simp only [Act.put, s_1, s_2, s_3, i64_w, i32_w]; rfl) ?_
    refine one_ (i := 7) (N := some 68) (bs_ 9 255) rfl rfl (one_of HT_.out (by kernel_rfl)) (by decide) (fun K hK => ?_)
    refine goes_ Try.func37 (by kernel_rfl) rfl #[.agg #[.int .i64 a0_0, .int .i64 a0_1, .slice A0_2 l0_2.length c0_2], .string (rdOf ByteArray.empty x7_4 x8_2), .int .i64 x54_3, .int .i64 x11_4] (by rfl) rfl rfl (by (try simp only [m_1, m_2, m_3]); first | done | rfl | (simp only [m_4, m_5]; rfl)) ?_
    with_reducible refine (spec_joTurn.calls k4 a0_0 a0_1 _ _ l0_2 (rdOf ByteArray.empty x7_4 x8_2) x54_3 x11_4 t175 _ ?side1 ?side2 A41.out).mono ?_
    (case side1 => repeat (first | exact (Kd.C_below HR0_2.out HB.out) | (with_reducible refine Kd.C_alloc ?_ _) | (with_reducible refine Kd.C_drewN ?_ _) | (with_reducible refine Kd.C_drew ?_)))
    (case side2 => exact HC0_2.out)
    rintro e w58 ⟨rfl, hb⟩
    have HS3_ := (hb.cell (World.block_lt_of_cell? _ _ (hHeld.2.2.2))).trans (hHeld.2.2.2)
    refine ⟨_, rfl, ?_⟩
    have n0_ := Aside0.mk (Kd.R_below (by (with_reducible repeat (first | apply r_a | apply r_d | apply r_e)); exact HO_5.out) hb)
    have n1_ := Aside0.mk (Kd.R_below (by (with_reducible repeat (first | apply r_a | apply r_d | apply r_e)); exact HO_7.out) hb)
    have n2_ := bbx hb BK160
    have n3_ := bsx hb HB
    clear HO_5
    clear HO_7
    clear BK160
    clear HB
    have HO_5 := n0_
    have HO_7 := n1_
    have BK160 := n2_
    have HB := n3_
    clear n0_ n1_ n2_ n3_
    (try clear hb)
    (try clear hb2)
    (try clear hk)
    (try clear hi)
    refine hK.out _ _ ⟨(blk_cell BK160.out 0).trans rfl, (blk_cell BK160.out 1).trans rfl, (blk_cell BK160.out 2).trans rfl, HS3_⟩ (fun hHeld => ?_)
    clear hK K
    refine norm_ (a' := ?_) ?_ ?_
    rotate_left
    · show Act.put _ (some 68) _ = _
      simp only [Act.put, s_1, s_2, s_3, i64_w, i32_w]
      rfl
    refine pua 8 12 (bs_ 9 511) HT_ ?_
    refine done_ (done_of HT_.out (by kernel_rfl)) ?_
    have hcz59_0 : w58.cell? ⟨gb160, 0, none⟩ = some (.int .i64 a0_0) := (blk_cell BK160.out 0).trans rfl
    have hcz59_1 : w58.cell? ⟨gb160, 1, none⟩ = some (.int .i64 a0_1) := (blk_cell BK160.out 1).trans rfl
    have hcz59_2 : w58.cell? ⟨gb160, 2, none⟩ = some (.slice A0_2 l0_2.length c0_2) := (blk_cell BK160.out 2).trans rfl
    have hfz59_0 := blk_frozen BK160.out 0
    have hfz59_1 := blk_frozen BK160.out 1
    have hfz59_2 := blk_frozen BK160.out 2
    try go_wp2_with (first | ((with_reducible refine gate_callee (f := 36) rfl ?_); refine goesL_ (some 72) rfl rfl Try.func36 (by kernel_rfl) rfl #[.agg #[.int .i64 a0_0, .int .i64 a0_1], .string t175] rfl (by (try simp only [m_1, m_2, m_3]); first | done | rfl | (simp only [m_4, m_5]; rfl)) ?_; (with_reducible refine (spec_whNumber.calls k4 a0_0 a0_1 t175 t176 _ A42.out).mono ?_); rintro e w60 ⟨rfl, hb⟩; refine ⟨_, rfl, ?_⟩; have n0_ := Aside0.mk (Kd.R_below (by (with_reducible repeat (first | apply r_a | apply r_d | apply r_e)); exact HO_5.out) hb); have n1_ := Aside0.mk (Kd.R_below (by (with_reducible repeat (first | apply r_a | apply r_d | apply r_e)); exact HO_7.out) hb); replace BK160 := bbx hb BK160; replace HB := bsx hb HB; clear HO_5; clear HO_7; have HO_5 := n0_; have HO_7 := n1_; clear n0_ n1_; (try clear hb); (try clear hb2); (try clear hk); (try clear hi); have p177 : 0 ≤ (t176 : Int) := of_decide_eq_true (by first | (with_reducible assumption) | assumption); have q177 : t176 < (x5_4.length : Int) := of_decide_eq_true (by first | (with_reducible assumption) | assumption); obtain ⟨ad177, e177, hx177_0⟩ := Kd.at_int (Kd.R_reads' HO_5.out).2.2 t176 p177 q177; obtain rfl : (⟨go21, 0, none⟩ : Addr) = ad177 := (by injection e177); (first | simp only [add_plain] at hx177_0 | simp only [add_at] at hx177_0 | simp only [Addr.add, Nat.zero_add] at hx177_0 | skip); replace p177 := eq_true p177; replace q177 := eq_true q177))
    (try simp only [← hl5_4])
    go_roundg k4
    case measure => have := HK1.out; have := HK2.out; have := HK3.out; have := HK4.out; omega
    case rel => exact ⟨(x5_4), (x7_4), (wrap64 (x11_4 - 2)), (by first | rfl | (simp; done) | (simp [*]; done)), H', ⟨by have := HK1.out; have := HK2.out; have := HK3.out; have := HK4.out; omega⟩, ⟨by (try simp only [hl5_1]); (try simp only [hl5_2]); (try simp only [hl5_3]); (try simp only [hl5_4]); (with_reducible repeat (first | apply r_a | apply r_d | apply r_e)); exact HO_5.out⟩, ⟨by (try simp only [hl5_1]); (try simp only [hl5_2]); (try simp only [hl5_3]); (try simp only [hl5_4]); (with_reducible repeat (first | apply r_a | apply r_d | apply r_e)); exact HO_7.out⟩, ⟨by (try simp only [hl5_1]); (try simp only [hl5_2]); (try simp only [hl5_3]); (try simp only [hl5_4]); (with_reducible repeat (first | refine g_d ?_ _ | refine g_e ?_ | refine g_a ?_ _)); exact BK160.out⟩, ⟨bB HB⟩⟩
  rw [if_pos c45] at H
  have c45b0 : decide ((rd x5_4 t176) < 0) = true := decide_eq_true c45
  clear c45
  obtain ⟨y178, hy178⟩ : ∃ y_ : List Int, y_ = (x5_4.set (t176 : Int).toNat (wrap64 ((rd x5_2 t172) + 1))) := ⟨_, rfl⟩
  replace H : (if x7_4.length < 8796093022208 then (spec_joFar.l3 k4 y178 (x7_4 ++ [t175]) x8_2 (rd x5_2 t172) x54_3 (wrap64 (x11_4 - 2)) (l0_2.length : Int) x54_3 a0_0 a0_1 l0_2) else (none)) = some r := by first | (rw [hy178]; with_reducible exact H) | (have H2_ := (Option.bind_some _ _).symm.trans H; rw [hy178]; with_reducible exact H2_) | (have H2_ := (Option.bind_some _ _).symm.trans H; with_reducible exact H2_) | with_reducible exact H | (rw [hy178]; exact H) | exact H
  have Ny178 := Aside0.mk hy178
  clear hy178
  by_cases c47 : x7_4.length < 8796093022208
  rotate_left
  · rw [if_neg c47] at H
    exact absurd H (by simp)
  rw [if_pos c47] at H
  have LMc47 := Aside0.mk c47
  clear c47
  obtain ⟨y179, hy179⟩ : ∃ y_ : List ByteArray, y_ = (x7_4 ++ [t175]) := ⟨_, rfl⟩
  replace H : (spec_joFar.l3 k4 y178 y179 x8_2 (rd x5_2 t172) x54_3 (wrap64 (x11_4 - 2)) (l0_2.length : Int) x54_3 a0_0 a0_1 l0_2) = some r := by first | (rw [hy179]; with_reducible exact H) | (have H2_ := (Option.bind_some _ _).symm.trans H; rw [hy179]; with_reducible exact H2_) | (have H2_ := (Option.bind_some _ _).symm.trans H; with_reducible exact H2_) | with_reducible exact H | (rw [hy179]; exact H) | exact H
  have Ny179 := Aside0.mk hy179
  clear hy179
  have H' := Aside0.mk H
  clear H
  try go_wp2
  have n0_ := Aside0.mk (r_e HO_5.out)
  have n1_ := Aside0.mk (r_e HO_7.out)
  have n2_ := Aside0.mk (g_e BK160.out)
  have n3_ := Aside0.mk (b_e HB.out)
  clear HO_5
  clear HO_7
  clear BK160
  clear HB
  have HO_5 := n0_
  have HO_7 := n1_
  have BK160 := n2_
  have HB := n3_
  clear n0_ n1_ n2_ n3_
  obtain ⟨Ao49, co49, eo49⟩ := Kd.R_slice HO_7.out
  (first | subst eo49 | (injection eo49 with f1_ f2_ f3_; have f4_ := f1_.symm; have f5_ := f3_.symm; clear f1_ f2_ f3_; subst f4_; subst f5_))
  have p174 : 0 ≤ (x8_2 : Int) := of_decide_eq_true (by first | (with_reducible assumption) | assumption)
  have q174 : x8_2 < (x7_4.length : Int) := of_decide_eq_true (by first | (with_reducible assumption) | assumption)
  obtain ⟨ad174, e174, hx174_0⟩ := Kd.at_string (Kd.R_reads' HO_7.out).2.2 x8_2 p174 q174
  cases e174
  replace p174 := eq_true p174
  replace q174 := eq_true q174
  refine start_ (n := 9) (S := fun w' => w'.cell? ⟨gb160, 0, none⟩ = some (.int .i64 a0_0) ∧ w'.cell? ⟨gb160, 1, none⟩ = some (.int .i64 a0_1) ∧ w'.cell? ⟨gb160, 2, none⟩ = some (.slice A0_2 l0_2.length c0_2) ∧ w'.cell? (ad174.add (x8_2).toNat) = some (.string (rdOf ByteArray.empty x7_4 x8_2))) (ds := []) (bs_ 9 0) (by kernel_rfl) rfl rfl ⟨(blk_cell BK160.out 0).trans rfl, (blk_cell BK160.out 1).trans rfl, (blk_cell BK160.out 2).trans rfl, hx174_0⟩ (fun hHeld => ?_); refine with_tabW spec_joFar.tab19 spec_joFar.bits19 (fun HT_ HW_ => ?_)
  generalize wr.drew = w48 at HO_5 HO_7 BK160 HB hx174_0 hHeld ⊢
  refine pua 1 62 (bs_ 9 2) HT_ ?_
  refine pua 2 63 (bs_ 9 6) HT_ ?_
  refine pua 3 64 (bs_ 9 14) HT_ ?_
  refine pua 5 66 (bs_ 9 46) HT_ ?_
  refine pua 6 67 (bs_ 9 110) HT_ ?_
  refine tk_ 0 61 (bs_ 9 111) rfl rfl HT_ HW_ (by kernel_rfl) (fun _ _ _ h => h) (by rfl) hHeld (by rintro w' ⟨s0, s1, s2, s3⟩; go_simp; with_reducible rfl) (by simp only [Act.put, s_1, s_2, s_3, i64_w, i32_w]; rfl) ?_
  refine tk_ 4 65 (bs_ 9 127) rfl rfl HT_ HW_ (by kernel_rfl) (fun _ _ _ h => h) (by rfl) hHeld (by rintro w' ⟨s0, s1, s2, s3⟩; go_simp; with_reducible rfl) (by simp only [Act.put, s_1, s_2, s_3, i64_w, i32_w]; rfl) ?_
  refine one_ (i := 7) (N := some 68) (bs_ 9 255) rfl rfl (one_of HT_.out (by kernel_rfl)) (by decide) (fun K hK => ?_)
  refine goes_ Try.func37 (by kernel_rfl) rfl #[.agg #[.int .i64 a0_0, .int .i64 a0_1, .slice A0_2 l0_2.length c0_2], .string (rdOf ByteArray.empty x7_4 x8_2), .int .i64 x54_3, .int .i64 x11_4] (by rfl) rfl rfl (by (try simp only [m_1, m_2, m_3]); first | done | rfl | (simp only [m_4, m_5]; rfl)) ?_
  with_reducible refine (spec_joTurn.calls k4 a0_0 a0_1 _ _ l0_2 (rdOf ByteArray.empty x7_4 x8_2) x54_3 x11_4 t175 _ ?side1 ?side2 A41.out).mono ?_
  (case side1 => repeat (first | exact (Kd.C_below HR0_2.out HB.out) | (with_reducible refine Kd.C_alloc ?_ _) | (with_reducible refine Kd.C_drewN ?_ _) | (with_reducible refine Kd.C_drew ?_)))
  (case side2 => exact HC0_2.out)
  rintro e w50 ⟨rfl, hb⟩
  have HS3_ := (hb.cell (World.block_lt_of_cell? _ _ (hHeld.2.2.2))).trans (hHeld.2.2.2)
  refine ⟨_, rfl, ?_⟩
  have n0_ := Aside0.mk (Kd.R_below (by (with_reducible repeat (first | apply r_a | apply r_d | apply r_e)); exact HO_5.out) hb)
  have n1_ := Aside0.mk (Kd.R_below (by (with_reducible repeat (first | apply r_a | apply r_d | apply r_e)); exact HO_7.out) hb)
  have n2_ := bbx hb BK160
  have n3_ := bsx hb HB
  clear HO_5
  clear HO_7
  clear BK160
  clear HB
  have HO_5 := n0_
  have HO_7 := n1_
  have BK160 := n2_
  have HB := n3_
  clear n0_ n1_ n2_ n3_
  (try clear hb)
  (try clear hb2)
  (try clear hk)
  (try clear hi)
  refine hK.out _ _ ⟨(blk_cell BK160.out 0).trans rfl, (blk_cell BK160.out 1).trans rfl, (blk_cell BK160.out 2).trans rfl, HS3_⟩ (fun hHeld => ?_)
  clear hK K
  refine norm_ (a' := ?_) ?_ ?_
  rotate_left
  · show Act.put _ (some 68) _ = _
    simp only [Act.put, s_1, s_2, s_3, i64_w, i32_w]
    rfl
  refine pua 8 12 (bs_ 9 511) HT_ ?_
  refine done_ (done_of HT_.out (by kernel_rfl)) ?_
  have hcz51_0 : w50.cell? ⟨gb160, 0, none⟩ = some (.int .i64 a0_0) := (blk_cell BK160.out 0).trans rfl
  have hcz51_1 : w50.cell? ⟨gb160, 1, none⟩ = some (.int .i64 a0_1) := (blk_cell BK160.out 1).trans rfl
  have hcz51_2 : w50.cell? ⟨gb160, 2, none⟩ = some (.slice A0_2 l0_2.length c0_2) := (blk_cell BK160.out 2).trans rfl
  have hfz51_0 := blk_frozen BK160.out 0
  have hfz51_1 := blk_frozen BK160.out 1
  have hfz51_2 := blk_frozen BK160.out 2
  try go_wp2_with (first | ((with_reducible refine gate_callee (f := 36) rfl ?_); refine goesL_ (some 72) rfl rfl Try.func36 (by kernel_rfl) rfl #[.agg #[.int .i64 a0_0, .int .i64 a0_1], .string t175] rfl (by (try simp only [m_1, m_2, m_3]); first | done | rfl | (simp only [m_4, m_5]; rfl)) ?_; (with_reducible refine (spec_whNumber.calls k4 a0_0 a0_1 t175 t176 _ A42.out).mono ?_); rintro e w52 ⟨rfl, hb⟩; refine ⟨_, rfl, ?_⟩; have n0_ := Aside0.mk (Kd.R_below (by (with_reducible repeat (first | apply r_a | apply r_d | apply r_e)); exact HO_5.out) hb); have n1_ := Aside0.mk (Kd.R_below (by (with_reducible repeat (first | apply r_a | apply r_d | apply r_e)); exact HO_7.out) hb); replace BK160 := bbx hb BK160; replace HB := bsx hb HB; clear HO_5; clear HO_7; have HO_5 := n0_; have HO_7 := n1_; clear n0_ n1_; (try clear hb); (try clear hb2); (try clear hk); (try clear hi); have p177 : 0 ≤ (t176 : Int) := of_decide_eq_true (by first | (with_reducible assumption) | assumption); have q177 : t176 < (x5_4.length : Int) := of_decide_eq_true (by first | (with_reducible assumption) | assumption); obtain ⟨ad177, e177, hx177_0⟩ := Kd.at_int (Kd.R_reads' HO_5.out).2.2 t176 p177 q177; obtain rfl : (⟨go21, 0, none⟩ : Addr) = ad177 := (by injection e177); (first | simp only [add_plain] at hx177_0 | simp only [add_at] at hx177_0 | simp only [Addr.add, Nat.zero_add] at hx177_0 | skip); replace p177 := eq_true p177; replace q177 := eq_true q177; have p46 : 0 ≤ (t176 : Int) := of_decide_eq_true (by first | (with_reducible assumption) | assumption); have q46 : (t176 : Int) < ((x5_4.length : Int) : Int) := of_decide_eq_true (by first | (with_reducible assumption) | assumption); obtain ⟨hx46_0, hf46_0⟩ := Kd.R_celln 0 HO_5.out (t176 : Int) p46 q46; replace p46 := eq_true p46; replace q46 := eq_true q46; obtain ⟨hy53_, hz53_⟩ := Kd.R_celln 0 HO_5.out (t176 : Int) (of_decide_eq_true (by first | (with_reducible assumption) | assumption)) (of_decide_eq_true (by first | (with_reducible assumption) | assumption)); have HP53 := Kd.R_putg HO_5.out (t176 : Int) (wrap64 ((rd x5_2 t172) + 1))) | ((with_reducible refine gate_store (t := 3) (p := 82) rfl ?_); refine store_event (t := 3) (p := 82) (v := ?vo_w54) (w1 := (w52.setCell ⟨go21, (t176 : Int).toNat, none⟩ (.int .i64 (wrap64 ((rd x5_2 t172) + 1))))) ?hg ?ho ?hn ?hr ?_; (case ho => rfl); (case hg => rfl); (case hn => rfl); (case hr => first | (go_simp; done) | (go_simp; rfl)); intro w54 hw; have hg : w52.grownBy w54 (some go21) := (by rw [hw]; exact HP53.2); have hp_ : Kd.R (Kd.int .i64) 3 w54 w.heap.size (fun _ => True) (.slice (some ⟨go21, 0, none⟩) x5_4.length co11) y178 := (by rw [hw, Ny178.out]; exact HP53.1); clear HP53; have n0_ := Aside0.mk (hp_); have n1_ := Aside0.mk (Kd.R_over' (v := (.slice (some ⟨go21, 0, none⟩) x5_4.length co11)) (by (with_reducible repeat (first | apply r_a | apply r_d | apply r_e)); exact HO_7.out) (Kd.R_typed HO_5.out) (by decide) hg); have n2_ := Aside0.mk (blk_grown (g := gb160) (o := .cells #[.int .i64 a0_0, .int .i64 a0_1, .slice A0_2 l0_2.length c0_2] 33 (0, 0)) (bK BK160) hg (Kd.R_ne HO_5.out BK160.out (by decide))); have n3_ := Aside0.mk ((by rw [hw]; exact b_s (HB.out) GB21.out : Below w.heap.size w w54)); clear HO_5; clear HO_7; clear BK160; clear HB; have HO_5 := n0_; have HO_7 := n1_; have BK160 := n2_; have HB := n3_; clear n0_ n1_ n2_ n3_; clear hg hw hp_) | ((with_reducible refine gate_builtin (b := .append) (xs := #[.tmp 83, .tmp 85]) rfl ?_); at_builtin; refine Kd.R_append Kd.string (w0 := w) w.heap.size rfl (.tmp 83) (.tmp 85) 100 9 (.string ⟨#[]⟩) 16 rfl Try.underlying100 info9 rfl (by decide) (by omega) (.slice (some ad174) x7_4.length co49) x7_4 t175 [.string t175] (fun _ => True) (fun _ => False) rfl rfl ?aP (fun _ hk => hk.elim) ?aF ?aO ?aB ?aS ?aL ?_; (case aP => exact rfl); (case aB => exact (bB HB)); (case aF => exact (fun _ _ => trivial)); (case aO => exact (by (with_reducible repeat (first | apply r_a | apply r_d | apply r_e)); exact HO_7.out)); (case aS => exact (below_size (bB HB))); (case aL => have := LMc47.out; omega); intro v180 w55 ho hb hg hat; rw [← Ny179.out] at ho; have n0_ := Aside0.mk (Kd.R_over' (by (with_reducible repeat (first | apply r_a | apply r_d | apply r_e)); exact HO_5.out) (Kd.R_typed (by (with_reducible repeat (first | apply r_a | apply r_d | apply r_e)); exact HO_7.out)) (by decide) hg); have n1_ := Aside0.mk (blk_grown (g := gb160) (o := .cells #[.int .i64 a0_0, .int .i64 a0_1, .slice A0_2 l0_2.length c0_2] 33 (0, 0)) (bK BK160) hg (Kd.R_ne HO_7.out BK160.out (by decide))); have n2_ := Aside0.mk (hb); have n3_ := Aside0.mk (ho); clear HO_5; clear BK160; clear HB; clear HO_7; have HO_5 := n0_; have BK160 := n1_; have HB := n2_; have HO181 := n3_; clear n0_ n1_ n2_ n3_; clear ho hb hg hat))
  (try simp only [← hl5_4])
  go_roundg k4
  case measure => have := HK1.out; have := HK2.out; have := HK3.out; have := HK4.out; omega
  case rel => exact ⟨(y178), (y179), (wrap64 (x11_4 - 2)), (by first | rfl | (simp; done) | (simp [*]; done)), H', ⟨by have := HK1.out; have := HK2.out; have := HK3.out; have := HK4.out; omega⟩, ⟨by (try simp only [hl5_1]); (try simp only [hl5_2]); (try simp only [hl5_3]); (try simp only [hl5_4]); (with_reducible repeat (first | apply r_a | apply r_d | apply r_e)); exact HO_5.out⟩, ⟨by (try simp only [hl5_1]); (try simp only [hl5_2]); (try simp only [hl5_3]); (try simp only [hl5_4]); (with_reducible repeat (first | apply r_a | apply r_d | apply r_e)); exact HO181.out⟩, ⟨by (try simp only [hl5_1]); (try simp only [hl5_2]); (try simp only [hl5_3]); (try simp only [hl5_4]); (with_reducible repeat (first | refine g_d ?_ _ | refine g_e ?_ | refine g_a ?_ _)); exact BK160.out⟩, ⟨bB HB⟩⟩
/-! ### spec_FirstKnobs: function 7 -/
mutual
def spec_FirstKnobs.l0 : Nat → ByteArray → List Int → Int → List (S48) → Int → Int → List (List Int) → Option ((List (S48)) × Bool)
  | 0, _, _, _, _, _, _, _ => none
  | k + 1, x1, x8, x9, x10, x183000, x183001, x183002 => if x9 > 0 then (spec_FirstKnobs.l1 k x1 x8 x9 x10 false 0 x183000 x183001 x183002) else (some (x10, true))
def spec_FirstKnobs.l1 : Nat → ByteArray → List Int → Int → List (S48) → Bool → Int → Int → Int → List (List Int) → Option ((List (S48)) × Bool)
  | 0, _, _, _, _, _, _, _, _, _ => none
  | k + 1, x1, x8, x9, x10, x11, x12, x183000, x183001, x183002 => if x12 < (x183002.length : Int) then (spec_FirstKnobs.j2 k x1 x8 x9 x10 x11 x12 (!x11) x183000 x183001 x183002) else (spec_FirstKnobs.j2 k x1 x8 x9 x10 x11 x12 false x183000 x183001 x183002)
def spec_FirstKnobs.j2 : Nat → ByteArray → List Int → Int → List (S48) → Bool → Int → Bool → Int → Int → List (List Int) → Option ((List (S48)) × Bool)
  | 0, _, _, _, _, _, _, _, _, _, _ => none
  | k + 1, x1, x8, x9, x10, x11, x12, x44, x183000, x183001, x183002 => if x44 = true then (spec_FirstKnobs.l2 k x1 x8 x9 x10 x11 x12 1 x183000 x183001 x183002) else (spec_FirstKnobs.l0 k x1 x8 (wrap64 (x9 - 1)) x10 x183000 x183001 x183002)
def spec_FirstKnobs.l2 : Nat → ByteArray → List Int → Int → List (S48) → Bool → Int → Int → Int → Int → List (List Int) → Option ((List (S48)) × Bool)
  | 0, _, _, _, _, _, _, _, _, _, _ => none
  | k + 1, x1, x8, x9, x10, x11, x12, x13, x183000, x183001, x183002 => if x13 > (-2) then (spec_FirstKnobs.j4 k x1 x8 x9 x10 x11 x12 x13 (!x11) x183000 x183001 x183002) else (spec_FirstKnobs.j4 k x1 x8 x9 x10 x11 x12 x13 false x183000 x183001 x183002)
def spec_FirstKnobs.j4 : Nat → ByteArray → List Int → Int → List (S48) → Bool → Int → Int → Bool → Int → Int → List (List Int) → Option ((List (S48)) × Bool)
  | 0, _, _, _, _, _, _, _, _, _, _, _ => none
  | k + 1, x1, x8, x9, x10, x11, x12, x13, x52, x183000, x183001, x183002 => if x52 = true then ((spec_joTurn.f k x183000 x183001 x183002 x1 x12 x13).bind fun t189 => ((spec_whNumber.f k x183000 x183001 t189).bind fun t190 => (if 0 ≤ t190 then (if t190 < (x8.length : Int) then (if (rd x8 t190) = (wrap64 (x9 - 1)) then (if x10.length < 8796093022208 then (spec_FirstKnobs.l2 k t189 x8 x9 (x10 ++ [(⟨x12, x13⟩ : S48)]) true x12 (wrap64 (x13 - 2)) x183000 x183001 x183002) else (none)) else (spec_FirstKnobs.l2 k x1 x8 x9 x10 x11 x12 (wrap64 (x13 - 2)) x183000 x183001 x183002)) else (none)) else (none)))) else (spec_FirstKnobs.l1 k x1 x8 x9 x10 x11 (wrap64 (x12 + 1)) x183000 x183001 x183002)
end
def spec_FirstKnobs.f (k : Nat) (a0_0 : Int) (a0_1 : Int) (l0_2 : List (List Int)) (a1 : ByteArray) (a2 : ByteArray) : Option ((List (S48)) × Bool) := (spec_joTwo.f k a0_0 a0_1 l0_2 a1 a2).bind fun t183 => (if t183 = true then ((spec_joFar.f k a0_0 a0_1 l0_2 a2).bind fun t184 => ((spec_whNumber.f k a0_0 a0_1 a1).bind fun t187 => (if 0 ≤ t187 then (if t187 < (t184.length : Int) then (if (rd t184 t187) < 0 then (some (([] : List (S48)), false)) else (spec_FirstKnobs.l0 k a1 t184 (rd t184 t187) ([] : List (S48)) a0_0 a0_1 l0_2)) else (none)) else (none)))) else (some (([] : List (S48)), false)))
theorem spec_FirstKnobs.mono_l : ∀ k, (∀ y0 y1 y2 y3 y4 y5 y6, LeO (spec_FirstKnobs.l0 k y0 y1 y2 y3 y4 y5 y6) (spec_FirstKnobs.l0 (k + 1) y0 y1 y2 y3 y4 y5 y6)) ∧ (∀ y0 y1 y2 y3 y4 y5 y6 y7 y8, LeO (spec_FirstKnobs.l1 k y0 y1 y2 y3 y4 y5 y6 y7 y8) (spec_FirstKnobs.l1 (k + 1) y0 y1 y2 y3 y4 y5 y6 y7 y8)) ∧ (∀ y0 y1 y2 y3 y4 y5 y6 y7 y8 y9, LeO (spec_FirstKnobs.j2 k y0 y1 y2 y3 y4 y5 y6 y7 y8 y9) (spec_FirstKnobs.j2 (k + 1) y0 y1 y2 y3 y4 y5 y6 y7 y8 y9)) ∧ (∀ y0 y1 y2 y3 y4 y5 y6 y7 y8 y9, LeO (spec_FirstKnobs.l2 k y0 y1 y2 y3 y4 y5 y6 y7 y8 y9) (spec_FirstKnobs.l2 (k + 1) y0 y1 y2 y3 y4 y5 y6 y7 y8 y9)) ∧ (∀ y0 y1 y2 y3 y4 y5 y6 y7 y8 y9 y10, LeO (spec_FirstKnobs.j4 k y0 y1 y2 y3 y4 y5 y6 y7 y8 y9 y10) (spec_FirstKnobs.j4 (k + 1) y0 y1 y2 y3 y4 y5 y6 y7 y8 y9 y10))
  | 0 => ⟨fun _ _ _ _ _ _ _ r h => by simp [spec_FirstKnobs.l0] at h, fun _ _ _ _ _ _ _ _ _ r h => by simp [spec_FirstKnobs.l1] at h, fun _ _ _ _ _ _ _ _ _ _ r h => by simp [spec_FirstKnobs.j2] at h, fun _ _ _ _ _ _ _ _ _ _ r h => by simp [spec_FirstKnobs.l2] at h, fun _ _ _ _ _ _ _ _ _ _ _ r h => by simp [spec_FirstKnobs.j4] at h⟩
  | k + 1 => by
    obtain ⟨ih0, ih1, ih2, ih3, ih4⟩ := spec_FirstKnobs.mono_l k
    refine ⟨?_, ?_, ?_, ?_, ?_⟩
    · intro y0 y1 y2 y3 y4 y5 y6
      unfold spec_FirstKnobs.l0
      repeat' first
      | (with_reducible exact ih0 _ _ _ _ _ _ _)
      | (with_reducible exact ih1 _ _ _ _ _ _ _ _ _)
      | (with_reducible exact ih2 _ _ _ _ _ _ _ _ _ _)
      | (with_reducible exact ih3 _ _ _ _ _ _ _ _ _ _)
      | (with_reducible exact ih4 _ _ _ _ _ _ _ _ _ _ _)
      | (with_reducible exact spec_joFar.mono _ _ _ _ _)
      | (with_reducible exact spec_joTurn.mono _ _ _ _ _ _ _)
      | (with_reducible exact spec_joTwo.mono _ _ _ _ _ _)
      | (with_reducible exact spec_whNumber.mono _ _ _ _)
      | (with_reducible exact LeO.refl _)
      | (with_reducible exact LeO.none _)
      | (with_reducible refine LeO.ite ?_ ?_)
      | (with_reducible refine LeO.bind ?_ (fun _ => ?_))
      | exact ih0 _ _ _ _ _ _ _
      | exact ih1 _ _ _ _ _ _ _ _ _
      | exact ih2 _ _ _ _ _ _ _ _ _ _
      | exact ih3 _ _ _ _ _ _ _ _ _ _
      | exact ih4 _ _ _ _ _ _ _ _ _ _ _
      | exact spec_joFar.mono _ _ _ _ _
      | exact spec_joTurn.mono _ _ _ _ _ _ _
      | exact spec_joTwo.mono _ _ _ _ _ _
      | exact spec_whNumber.mono _ _ _ _
      | exact LeO.none _
      | refine LeO.ite ?_ ?_
      | refine LeO.bind ?_ (fun _ => ?_)
    · intro y0 y1 y2 y3 y4 y5 y6 y7 y8
      unfold spec_FirstKnobs.l1
      repeat' first
      | (with_reducible exact ih0 _ _ _ _ _ _ _)
      | (with_reducible exact ih1 _ _ _ _ _ _ _ _ _)
      | (with_reducible exact ih2 _ _ _ _ _ _ _ _ _ _)
      | (with_reducible exact ih3 _ _ _ _ _ _ _ _ _ _)
      | (with_reducible exact ih4 _ _ _ _ _ _ _ _ _ _ _)
      | (with_reducible exact spec_joFar.mono _ _ _ _ _)
      | (with_reducible exact spec_joTurn.mono _ _ _ _ _ _ _)
      | (with_reducible exact spec_joTwo.mono _ _ _ _ _ _)
      | (with_reducible exact spec_whNumber.mono _ _ _ _)
      | (with_reducible exact LeO.refl _)
      | (with_reducible exact LeO.none _)
      | (with_reducible refine LeO.ite ?_ ?_)
      | (with_reducible refine LeO.bind ?_ (fun _ => ?_))
      | exact ih0 _ _ _ _ _ _ _
      | exact ih1 _ _ _ _ _ _ _ _ _
      | exact ih2 _ _ _ _ _ _ _ _ _ _
      | exact ih3 _ _ _ _ _ _ _ _ _ _
      | exact ih4 _ _ _ _ _ _ _ _ _ _ _
      | exact spec_joFar.mono _ _ _ _ _
      | exact spec_joTurn.mono _ _ _ _ _ _ _
      | exact spec_joTwo.mono _ _ _ _ _ _
      | exact spec_whNumber.mono _ _ _ _
      | exact LeO.none _
      | refine LeO.ite ?_ ?_
      | refine LeO.bind ?_ (fun _ => ?_)
    · intro y0 y1 y2 y3 y4 y5 y6 y7 y8 y9
      unfold spec_FirstKnobs.j2
      repeat' first
      | (with_reducible exact ih0 _ _ _ _ _ _ _)
      | (with_reducible exact ih1 _ _ _ _ _ _ _ _ _)
      | (with_reducible exact ih2 _ _ _ _ _ _ _ _ _ _)
      | (with_reducible exact ih3 _ _ _ _ _ _ _ _ _ _)
      | (with_reducible exact ih4 _ _ _ _ _ _ _ _ _ _ _)
      | (with_reducible exact spec_joFar.mono _ _ _ _ _)
      | (with_reducible exact spec_joTurn.mono _ _ _ _ _ _ _)
      | (with_reducible exact spec_joTwo.mono _ _ _ _ _ _)
      | (with_reducible exact spec_whNumber.mono _ _ _ _)
      | (with_reducible exact LeO.refl _)
      | (with_reducible exact LeO.none _)
      | (with_reducible refine LeO.ite ?_ ?_)
      | (with_reducible refine LeO.bind ?_ (fun _ => ?_))
      | exact ih0 _ _ _ _ _ _ _
      | exact ih1 _ _ _ _ _ _ _ _ _
      | exact ih2 _ _ _ _ _ _ _ _ _ _
      | exact ih3 _ _ _ _ _ _ _ _ _ _
      | exact ih4 _ _ _ _ _ _ _ _ _ _ _
      | exact spec_joFar.mono _ _ _ _ _
      | exact spec_joTurn.mono _ _ _ _ _ _ _
      | exact spec_joTwo.mono _ _ _ _ _ _
      | exact spec_whNumber.mono _ _ _ _
      | exact LeO.none _
      | refine LeO.ite ?_ ?_
      | refine LeO.bind ?_ (fun _ => ?_)
    · intro y0 y1 y2 y3 y4 y5 y6 y7 y8 y9
      unfold spec_FirstKnobs.l2
      repeat' first
      | (with_reducible exact ih0 _ _ _ _ _ _ _)
      | (with_reducible exact ih1 _ _ _ _ _ _ _ _ _)
      | (with_reducible exact ih2 _ _ _ _ _ _ _ _ _ _)
      | (with_reducible exact ih3 _ _ _ _ _ _ _ _ _ _)
      | (with_reducible exact ih4 _ _ _ _ _ _ _ _ _ _ _)
      | (with_reducible exact spec_joFar.mono _ _ _ _ _)
      | (with_reducible exact spec_joTurn.mono _ _ _ _ _ _ _)
      | (with_reducible exact spec_joTwo.mono _ _ _ _ _ _)
      | (with_reducible exact spec_whNumber.mono _ _ _ _)
      | (with_reducible exact LeO.refl _)
      | (with_reducible exact LeO.none _)
      | (with_reducible refine LeO.ite ?_ ?_)
      | (with_reducible refine LeO.bind ?_ (fun _ => ?_))
      | exact ih0 _ _ _ _ _ _ _
      | exact ih1 _ _ _ _ _ _ _ _ _
      | exact ih2 _ _ _ _ _ _ _ _ _ _
      | exact ih3 _ _ _ _ _ _ _ _ _ _
      | exact ih4 _ _ _ _ _ _ _ _ _ _ _
      | exact spec_joFar.mono _ _ _ _ _
      | exact spec_joTurn.mono _ _ _ _ _ _ _
      | exact spec_joTwo.mono _ _ _ _ _ _
      | exact spec_whNumber.mono _ _ _ _
      | exact LeO.none _
      | refine LeO.ite ?_ ?_
      | refine LeO.bind ?_ (fun _ => ?_)
    · intro y0 y1 y2 y3 y4 y5 y6 y7 y8 y9 y10
      unfold spec_FirstKnobs.j4
      repeat' first
      | (with_reducible exact ih0 _ _ _ _ _ _ _)
      | (with_reducible exact ih1 _ _ _ _ _ _ _ _ _)
      | (with_reducible exact ih2 _ _ _ _ _ _ _ _ _ _)
      | (with_reducible exact ih3 _ _ _ _ _ _ _ _ _ _)
      | (with_reducible exact ih4 _ _ _ _ _ _ _ _ _ _ _)
      | (with_reducible exact spec_joFar.mono _ _ _ _ _)
      | (with_reducible exact spec_joTurn.mono _ _ _ _ _ _ _)
      | (with_reducible exact spec_joTwo.mono _ _ _ _ _ _)
      | (with_reducible exact spec_whNumber.mono _ _ _ _)
      | (with_reducible exact LeO.refl _)
      | (with_reducible exact LeO.none _)
      | (with_reducible refine LeO.ite ?_ ?_)
      | (with_reducible refine LeO.bind ?_ (fun _ => ?_))
      | exact ih0 _ _ _ _ _ _ _
      | exact ih1 _ _ _ _ _ _ _ _ _
      | exact ih2 _ _ _ _ _ _ _ _ _ _
      | exact ih3 _ _ _ _ _ _ _ _ _ _
      | exact ih4 _ _ _ _ _ _ _ _ _ _ _
      | exact spec_joFar.mono _ _ _ _ _
      | exact spec_joTurn.mono _ _ _ _ _ _ _
      | exact spec_joTwo.mono _ _ _ _ _ _
      | exact spec_whNumber.mono _ _ _ _
      | exact LeO.none _
      | refine LeO.ite ?_ ?_
      | refine LeO.bind ?_ (fun _ => ?_)
theorem spec_FirstKnobs.mono : ∀ a0 a1 a2 a3 a4 k, LeO (spec_FirstKnobs.f k a0 a1 a2 a3 a4) (spec_FirstKnobs.f (k + 1) a0 a1 a2 a3 a4) := by
  intro a0 a1 a2 a3 a4 k
  obtain ⟨ih0, ih1, ih2, ih3, ih4⟩ := spec_FirstKnobs.mono_l k
  unfold spec_FirstKnobs.f
  repeat' first
      | (with_reducible exact ih0 _ _ _ _ _ _ _)
      | (with_reducible exact ih1 _ _ _ _ _ _ _ _ _)
      | (with_reducible exact ih2 _ _ _ _ _ _ _ _ _ _)
      | (with_reducible exact ih3 _ _ _ _ _ _ _ _ _ _)
      | (with_reducible exact ih4 _ _ _ _ _ _ _ _ _ _ _)
      | (with_reducible exact spec_joFar.mono _ _ _ _ _)
      | (with_reducible exact spec_joTurn.mono _ _ _ _ _ _ _)
      | (with_reducible exact spec_joTwo.mono _ _ _ _ _ _)
      | (with_reducible exact spec_whNumber.mono _ _ _ _)
      | (with_reducible exact LeO.refl _)
      | (with_reducible exact LeO.none _)
      | (with_reducible refine LeO.ite ?_ ?_)
      | (with_reducible refine LeO.bind ?_ (fun _ => ?_))
      | exact ih0 _ _ _ _ _ _ _
      | exact ih1 _ _ _ _ _ _ _ _ _
      | exact ih2 _ _ _ _ _ _ _ _ _ _
      | exact ih3 _ _ _ _ _ _ _ _ _ _
      | exact ih4 _ _ _ _ _ _ _ _ _ _ _
      | exact spec_joFar.mono _ _ _ _ _
      | exact spec_joTurn.mono _ _ _ _ _ _ _
      | exact spec_joTwo.mono _ _ _ _ _ _
      | exact spec_whNumber.mono _ _ _ _
      | exact LeO.none _
      | refine LeO.ite ?_ ?_
      | refine LeO.bind ?_ (fun _ => ?_)
set_option maxHeartbeats 8000000 in
set_option maxRecDepth 100000 in
theorem spec_FirstKnobs.calls (k : Nat) (a0_0 : Int) (a0_1 : Int) (A0_2 : Option Addr) (c0_2 : Nat) (l0_2 : List (List Int)) (a1 : ByteArray) (a2 : ByteArray) (r1 : List (S48)) (r2 : Bool) (w : World) (hr0_2 : Kd.C (Kd.slice 3 (Kd.int .i64)) w A0_2 l0_2.length l0_2) (hc0_2 : l0_2.length ≤ c0_2) (h : spec_FirstKnobs.f k a0_0 a0_1 l0_2 a1 a2 = some (r1, r2)) :
    Calls Try.prog 7 #[.agg #[.int .i64 a0_0, .int .i64 a0_1, .slice A0_2 l0_2.length c0_2], .string a1, .string a2] w fun e w' => ∃ v0_ : Value, e = .returned (.tuple #[v0_, .bool r2]) ∧ Kd.R k48 48 w' w.heap.size (fun _ => True) v0_ r1 ∧ Below w.heap.size w w' := by
  have hu33 := Try.underlying33
  have hu31 := Try.underlying31
  have hu48 := Try.underlying48
  have HR0_2 := Aside0.mk hr0_2
  have HC0_2 := Aside0.mk hc0_2
  clear hr0_2 hc0_2
  have HB := Aside0.mk (Below.refl w.heap.size w)
  have H : ((spec_joTwo.f k a0_0 a0_1 l0_2 a1 a2).bind fun t183 => (if t183 = true then ((spec_joFar.f k a0_0 a0_1 l0_2 a2).bind fun t184 => ((spec_whNumber.f k a0_0 a0_1 a1).bind fun t187 => (if 0 ≤ t187 then (if t187 < (t184.length : Int) then (if (rd t184 t187) < 0 then (some (([] : List (S48)), false)) else (spec_FirstKnobs.l0 k a1 t184 (rd t184 t187) ([] : List (S48)) a0_0 a0_1 l0_2)) else (none)) else (none)))) else (some (([] : List (S48)), false)))) = some (r1, r2) := h
  clear h
  replace H := Option.bind_eq_some_iff.mp H
  obtain ⟨t183, A40, H⟩ := H
  try dsimp only at H
  have A4 := Aside0.mk A40
  clear A40
  by_cases c5 : t183 = true
  rotate_left
  · replace c5 := Bool.eq_false_iff.mpr c5
    subst c5
    rw [if_neg (show ¬ (false = true) by decide)] at H
    simp only [Option.some.injEq, Prod.mk.injEq] at H
    obtain ⟨rfl, rfl⟩ := H
    go_enter Try.func7, Try.ntmps7
    go_wp2_with (first | ((with_reducible refine gate_dst (N := 3) rfl ?_); refine box_event ?hg (N := 3) ?hd (cs := #[.int .i64 a0_0, .int .i64 a0_1, .slice A0_2 l0_2.length c0_2]) (t := 33) ?hr ?_; (case hd => rfl); (case hg => rfl); (case hr => first | (go_simp; done) | (go_simp; rfl)); intro gb182 hg w51 hbox hb; have n0_ := bsx hb HB; have n1_ := Aside0.mk (hbox); have n2_ := gwx hg HB; have n3_ := n2_; clear HB; have HB := n0_; have BK182 := n1_; have GW182 := n2_; have GE182 := n3_; clear n0_ n1_ n2_ n3_; clear hb hbox hg; have hcz52_0 : w51.cell? ⟨gb182, 0, none⟩ = some (.int .i64 a0_0) := (blk_cell BK182.out 0).trans rfl; have hcz52_1 : w51.cell? ⟨gb182, 1, none⟩ = some (.int .i64 a0_1) := (blk_cell BK182.out 1).trans rfl; have hcz52_2 : w51.cell? ⟨gb182, 2, none⟩ = some (.slice A0_2 l0_2.length c0_2) := (blk_cell BK182.out 2).trans rfl; have hfz52_0 := blk_frozen BK182.out 0; have hfz52_1 := blk_frozen BK182.out 1; have hfz52_2 := blk_frozen BK182.out 2) | ((with_reducible refine gate_callee (f := 34) rfl ?_); refine goesL_ (some 18) rfl rfl Try.func34 (by kernel_rfl) rfl #[.agg #[.int .i64 a0_0, .int .i64 a0_1, .slice A0_2 l0_2.length c0_2], .string a1, .string a2] rfl (by (try simp only [m_1, m_2, m_3]); first | done | rfl | (simp only [m_4, m_5]; rfl)) ?_; (with_reducible refine (spec_joTwo.calls k a0_0 a0_1 _ _ l0_2 a1 a2 false _ ?side1 ?side2 A4.out).mono ?_); (case side1 => repeat (first | exact (Kd.C_below HR0_2.out HB.out) | (with_reducible refine Kd.C_alloc ?_ _) | (with_reducible refine Kd.C_drewN ?_ _) | (with_reducible refine Kd.C_drew ?_))); (case side2 => exact HC0_2.out); rintro e w53 ⟨rfl, hb⟩; refine ⟨_, rfl, ?_⟩; replace BK182 := bbx hb BK182; replace HB := bsx hb HB; skip; (try clear hb); (try clear hb2); (try clear hk); (try clear hi)))
    go_ret2
    exact ⟨_, by first | rfl | (simp [errW_none, errW_some] <;> rfl) | (simp [*, errW_none, errW_some] <;> rfl), by first | exact Kd.R_nil _ _ _ _ _ | exact Kd.N_nil _ _ _ _ _ | exact Kd.V_nil _ _ _ _ _ | exact Kd.Q_nil _ _ _ _ _ | exact Kd.S_nil _ _ _ _ _, bB HB⟩

  subst c5
  rw [if_pos rfl] at H
  replace H := Option.bind_eq_some_iff.mp H
  obtain ⟨t184, A60, H⟩ := H
  try dsimp only at H
  have A6 := Aside0.mk A60
  clear A60
  replace H := Option.bind_eq_some_iff.mp H
  obtain ⟨t187, A70, H⟩ := H
  try dsimp only at H
  have A7 := Aside0.mk A70
  clear A70
  by_cases c8 : 0 ≤ t187
  rotate_left
  · rw [if_neg c8] at H
    exact absurd H (by simp)
  rw [if_pos c8] at H
  have c8b0 : decide (0 ≤ t187) = true := decide_eq_true c8
  clear c8
  by_cases c9 : t187 < (t184.length : Int)
  rotate_left
  · rw [if_neg c9] at H
    exact absurd H (by simp)
  rw [if_pos c9] at H
  have c9b0 : decide (t187 < (t184.length : Int)) = true := decide_eq_true c9
  clear c9
  by_cases c10 : (rd t184 t187) < 0
  · rw [if_pos c10] at H
    have c10b0 : decide ((rd t184 t187) < 0) = true := decide_eq_true c10
    clear c10
    simp only [Option.some.injEq, Prod.mk.injEq] at H
    obtain ⟨rfl, rfl⟩ := H
    go_enter Try.func7, Try.ntmps7
    go_wp2_with (first | ((with_reducible refine gate_dst (N := 3) rfl ?_); refine box_event ?hg (N := 3) ?hd (cs := #[.int .i64 a0_0, .int .i64 a0_1, .slice A0_2 l0_2.length c0_2]) (t := 33) ?hr ?_; (case hd => rfl); (case hg => rfl); (case hr => first | (go_simp; done) | (go_simp; rfl)); intro gb182 hg w11 hbox hb; have n0_ := bsx hb HB; have n1_ := Aside0.mk (hbox); have n2_ := gwx hg HB; have n3_ := n2_; clear HB; have HB := n0_; have BK182 := n1_; have GW182 := n2_; have GE182 := n3_; clear n0_ n1_ n2_ n3_; clear hb hbox hg; have hcz12_0 : w11.cell? ⟨gb182, 0, none⟩ = some (.int .i64 a0_0) := (blk_cell BK182.out 0).trans rfl; have hcz12_1 : w11.cell? ⟨gb182, 1, none⟩ = some (.int .i64 a0_1) := (blk_cell BK182.out 1).trans rfl; have hcz12_2 : w11.cell? ⟨gb182, 2, none⟩ = some (.slice A0_2 l0_2.length c0_2) := (blk_cell BK182.out 2).trans rfl; have hfz12_0 := blk_frozen BK182.out 0; have hfz12_1 := blk_frozen BK182.out 1; have hfz12_2 := blk_frozen BK182.out 2) | ((with_reducible refine gate_callee (f := 34) rfl ?_); refine goesL_ (some 18) rfl rfl Try.func34 (by kernel_rfl) rfl #[.agg #[.int .i64 a0_0, .int .i64 a0_1, .slice A0_2 l0_2.length c0_2], .string a1, .string a2] rfl (by (try simp only [m_1, m_2, m_3]); first | done | rfl | (simp only [m_4, m_5]; rfl)) ?_; (with_reducible refine (spec_joTwo.calls k a0_0 a0_1 _ _ l0_2 a1 a2 true _ ?side1 ?side2 A4.out).mono ?_); (case side1 => repeat (first | exact (Kd.C_below HR0_2.out HB.out) | (with_reducible refine Kd.C_alloc ?_ _) | (with_reducible refine Kd.C_drewN ?_ _) | (with_reducible refine Kd.C_drew ?_))); (case side2 => exact HC0_2.out); rintro e w13 ⟨rfl, hb⟩; refine ⟨_, rfl, ?_⟩; replace BK182 := bbx hb BK182; replace HB := bsx hb HB; skip; (try clear hb); (try clear hb2); (try clear hk); (try clear hi); have hcz14_0 : w13.cell? ⟨gb182, 0, none⟩ = some (.int .i64 a0_0) := (blk_cell BK182.out 0).trans rfl; have hcz14_1 : w13.cell? ⟨gb182, 1, none⟩ = some (.int .i64 a0_1) := (blk_cell BK182.out 1).trans rfl; have hcz14_2 : w13.cell? ⟨gb182, 2, none⟩ = some (.slice A0_2 l0_2.length c0_2) := (blk_cell BK182.out 2).trans rfl; have hfz14_0 := blk_frozen BK182.out 0; have hfz14_1 := blk_frozen BK182.out 1; have hfz14_2 := blk_frozen BK182.out 2) | ((with_reducible refine gate_callee (f := 35) rfl ?_); refine goesL_ (some 22) rfl rfl Try.func35 (by kernel_rfl) rfl #[.agg #[.int .i64 a0_0, .int .i64 a0_1, .slice A0_2 l0_2.length c0_2], .string a2] rfl (by (try simp only [m_1, m_2, m_3]); first | done | rfl | (simp only [m_4, m_5]; rfl)) ?_; (with_reducible refine (spec_joFar.calls k a0_0 a0_1 _ _ l0_2 a2 t184 _ ?side1 ?side2 A6.out).mono ?_); (case side1 => repeat (first | exact (Kd.C_below HR0_2.out HB.out) | (with_reducible refine Kd.C_alloc ?_ _) | (with_reducible refine Kd.C_drewN ?_ _) | (with_reducible refine Kd.C_drew ?_))); (case side2 => exact HC0_2.out); rintro e w15 ⟨v185, rfl, ho0, hb⟩; refine ⟨_, rfl, ?_⟩; have n0_ := Aside0.mk (Kd.R_lower ho0 (below_size (bB HB))); replace BK182 := bbx hb BK182; have n2_ := bsx hb HB; clear HB; have HO186 := n0_; have HB := n2_; clear n0_ n2_; (try clear hb); (try clear hb2); (try clear hk); (try clear hi); (try clear ho0); have hcz16_0 : w15.cell? ⟨gb182, 0, none⟩ = some (.int .i64 a0_0) := (blk_cell BK182.out 0).trans rfl; have hcz16_1 : w15.cell? ⟨gb182, 1, none⟩ = some (.int .i64 a0_1) := (blk_cell BK182.out 1).trans rfl; have hcz16_2 : w15.cell? ⟨gb182, 2, none⟩ = some (.slice A0_2 l0_2.length c0_2) := (blk_cell BK182.out 2).trans rfl; have hfz16_0 := blk_frozen BK182.out 0; have hfz16_1 := blk_frozen BK182.out 1; have hfz16_2 := blk_frozen BK182.out 2) | ((with_reducible refine gate_callee (f := 36) rfl ?_); refine goesL_ (some 27) rfl rfl Try.func36 (by kernel_rfl) rfl #[.agg #[.int .i64 a0_0, .int .i64 a0_1], .string a1] rfl (by (try simp only [m_1, m_2, m_3]); first | done | rfl | (simp only [m_4, m_5]; rfl)) ?_; (with_reducible refine (spec_whNumber.calls k a0_0 a0_1 a1 t187 _ A7.out).mono ?_); rintro e w17 ⟨rfl, hb⟩; refine ⟨_, rfl, ?_⟩; have n0_ := Aside0.mk (Kd.R_below (by (with_reducible repeat (first | apply r_a | apply r_d | apply r_e)); exact HO186.out) hb); replace BK182 := bbx hb BK182; replace HB := bsx hb HB; clear HO186; have HO186 := n0_; clear n0_; (try clear hb); (try clear hb2); (try clear hk); (try clear hi); obtain ⟨Ao18, co18, eo18⟩ := Kd.R_slice HO186.out; subst eo18; have p188 : 0 ≤ (t187 : Int) := of_decide_eq_true (by first | (with_reducible assumption) | assumption); have q188 : t187 < (t184.length : Int) := of_decide_eq_true (by first | (with_reducible assumption) | assumption); obtain ⟨ad188, e188, hx188_0⟩ := Kd.at_int (Kd.R_reads' HO186.out).2.2 t187 p188 q188; cases e188; replace p188 := eq_true p188; replace q188 := eq_true q188))
    go_ret2
    exact ⟨_, by first | rfl | (simp [errW_none, errW_some] <;> rfl) | (simp [*, errW_none, errW_some] <;> rfl), by first | exact Kd.R_nil _ _ _ _ _ | exact Kd.N_nil _ _ _ _ _ | exact Kd.V_nil _ _ _ _ _ | exact Kd.Q_nil _ _ _ _ _ | exact Kd.S_nil _ _ _ _ _, bB HB⟩
  rw [if_neg c10] at H
  have c10b0 : decide ((rd t184 t187) < 0) = false := decide_eq_false c10
  clear c10
  have H' := Aside0.mk H
  clear H
  go_enter Try.func7, Try.ntmps7
  go_wp2_with (first | ((with_reducible refine gate_dst (N := 3) rfl ?_); refine box_event ?hg (N := 3) ?hd (cs := #[.int .i64 a0_0, .int .i64 a0_1, .slice A0_2 l0_2.length c0_2]) (t := 33) ?hr ?_; (case hd => rfl); (case hg => rfl); (case hr => first | (go_simp; done) | (go_simp; rfl)); intro gb182 hg w19 hbox hb; have n0_ := bsx hb HB; have n1_ := Aside0.mk (hbox); have n2_ := gwx hg HB; have n3_ := n2_; clear HB; have HB := n0_; have BK182 := n1_; have GW182 := n2_; have GE182 := n3_; clear n0_ n1_ n2_ n3_; clear hb hbox hg; have hcz20_0 : w19.cell? ⟨gb182, 0, none⟩ = some (.int .i64 a0_0) := (blk_cell BK182.out 0).trans rfl; have hcz20_1 : w19.cell? ⟨gb182, 1, none⟩ = some (.int .i64 a0_1) := (blk_cell BK182.out 1).trans rfl; have hcz20_2 : w19.cell? ⟨gb182, 2, none⟩ = some (.slice A0_2 l0_2.length c0_2) := (blk_cell BK182.out 2).trans rfl; have hfz20_0 := blk_frozen BK182.out 0; have hfz20_1 := blk_frozen BK182.out 1; have hfz20_2 := blk_frozen BK182.out 2) | ((with_reducible refine gate_callee (f := 34) rfl ?_); refine goesL_ (some 18) rfl rfl Try.func34 (by kernel_rfl) rfl #[.agg #[.int .i64 a0_0, .int .i64 a0_1, .slice A0_2 l0_2.length c0_2], .string a1, .string a2] rfl (by (try simp only [m_1, m_2, m_3]); first | done | rfl | (simp only [m_4, m_5]; rfl)) ?_; (with_reducible refine (spec_joTwo.calls k a0_0 a0_1 _ _ l0_2 a1 a2 true _ ?side1 ?side2 A4.out).mono ?_); (case side1 => repeat (first | exact (Kd.C_below HR0_2.out HB.out) | (with_reducible refine Kd.C_alloc ?_ _) | (with_reducible refine Kd.C_drewN ?_ _) | (with_reducible refine Kd.C_drew ?_))); (case side2 => exact HC0_2.out); rintro e w21 ⟨rfl, hb⟩; refine ⟨_, rfl, ?_⟩; replace BK182 := bbx hb BK182; replace HB := bsx hb HB; skip; (try clear hb); (try clear hb2); (try clear hk); (try clear hi); have hcz22_0 : w21.cell? ⟨gb182, 0, none⟩ = some (.int .i64 a0_0) := (blk_cell BK182.out 0).trans rfl; have hcz22_1 : w21.cell? ⟨gb182, 1, none⟩ = some (.int .i64 a0_1) := (blk_cell BK182.out 1).trans rfl; have hcz22_2 : w21.cell? ⟨gb182, 2, none⟩ = some (.slice A0_2 l0_2.length c0_2) := (blk_cell BK182.out 2).trans rfl; have hfz22_0 := blk_frozen BK182.out 0; have hfz22_1 := blk_frozen BK182.out 1; have hfz22_2 := blk_frozen BK182.out 2) | ((with_reducible refine gate_callee (f := 35) rfl ?_); refine goesL_ (some 22) rfl rfl Try.func35 (by kernel_rfl) rfl #[.agg #[.int .i64 a0_0, .int .i64 a0_1, .slice A0_2 l0_2.length c0_2], .string a2] rfl (by (try simp only [m_1, m_2, m_3]); first | done | rfl | (simp only [m_4, m_5]; rfl)) ?_; (with_reducible refine (spec_joFar.calls k a0_0 a0_1 _ _ l0_2 a2 t184 _ ?side1 ?side2 A6.out).mono ?_); (case side1 => repeat (first | exact (Kd.C_below HR0_2.out HB.out) | (with_reducible refine Kd.C_alloc ?_ _) | (with_reducible refine Kd.C_drewN ?_ _) | (with_reducible refine Kd.C_drew ?_))); (case side2 => exact HC0_2.out); rintro e w23 ⟨v185, rfl, ho0, hb⟩; refine ⟨_, rfl, ?_⟩; have n0_ := Aside0.mk (Kd.R_lower ho0 (below_size (bB HB))); replace BK182 := bbx hb BK182; have n2_ := bsx hb HB; clear HB; have HO186 := n0_; have HB := n2_; clear n0_ n2_; (try clear hb); (try clear hb2); (try clear hk); (try clear hi); (try clear ho0); have hcz24_0 : w23.cell? ⟨gb182, 0, none⟩ = some (.int .i64 a0_0) := (blk_cell BK182.out 0).trans rfl; have hcz24_1 : w23.cell? ⟨gb182, 1, none⟩ = some (.int .i64 a0_1) := (blk_cell BK182.out 1).trans rfl; have hcz24_2 : w23.cell? ⟨gb182, 2, none⟩ = some (.slice A0_2 l0_2.length c0_2) := (blk_cell BK182.out 2).trans rfl; have hfz24_0 := blk_frozen BK182.out 0; have hfz24_1 := blk_frozen BK182.out 1; have hfz24_2 := blk_frozen BK182.out 2) | ((with_reducible refine gate_callee (f := 36) rfl ?_); refine goesL_ (some 27) rfl rfl Try.func36 (by kernel_rfl) rfl #[.agg #[.int .i64 a0_0, .int .i64 a0_1], .string a1] rfl (by (try simp only [m_1, m_2, m_3]); first | done | rfl | (simp only [m_4, m_5]; rfl)) ?_; (with_reducible refine (spec_whNumber.calls k a0_0 a0_1 a1 t187 _ A7.out).mono ?_); rintro e w25 ⟨rfl, hb⟩; refine ⟨_, rfl, ?_⟩; have n0_ := Aside0.mk (Kd.R_below (by (with_reducible repeat (first | apply r_a | apply r_d | apply r_e)); exact HO186.out) hb); replace BK182 := bbx hb BK182; replace HB := bsx hb HB; clear HO186; have HO186 := n0_; clear n0_; (try clear hb); (try clear hb2); (try clear hk); (try clear hi); obtain ⟨Ao26, co26, eo26⟩ := Kd.R_slice HO186.out; subst eo26; have p188 : 0 ≤ (t187 : Int) := of_decide_eq_true (by first | (with_reducible assumption) | assumption); have q188 : t187 < (t184.length : Int) := of_decide_eq_true (by first | (with_reducible assumption) | assumption); obtain ⟨ad188, e188, hx188_0⟩ := Kd.at_int (Kd.R_reads' HO186.out).2.2 t187 p188 q188; cases e188; replace p188 := eq_true p188; replace q188 := eq_true q188))
  go_loopg [1, 9, 10] k (fun kq v1 v9 v10 w' => ∃ (x1_1 : ByteArray) (x9_1 : Int) (x10_1 : List (S48)), v1 = .string x1_1 ∧ v9 = .int .i64 x9_1 ∧ Aside0 (spec_FirstKnobs.l0 kq x1_1 t184 x9_1 x10_1 a0_0 a0_1 l0_2 = some (r1, r2)) ∧ Aside0 (kq ≤ k) ∧ Aside0 (Kd.R (Kd.int .i64) 3 w' w.heap.size (fun _ => True) (.slice (some ad188) t184.length co26) t184) ∧ Aside0 (Kd.R k48 48 w' w.heap.size (fun _ => True) v10 x10_1) ∧ Aside0 (w'.heap[gb182]? = some (.cells #[.int .i64 a0_0, .int .i64 a0_1, (.slice A0_2 l0_2.length c0_2)] 33 (0, 0))) ∧ Aside0 (Below w.heap.size w w'))
  case atStart => refine ⟨(a1), (rd t184 t187), (([] : List (S48))), (by first | rfl | (simp; done) | (simp [*]; done)), (by first | rfl | (simp; done) | (simp [*]; done)), H', ⟨Nat.le_refl _⟩, ⟨?_⟩, ⟨by first | exact Kd.R_nil _ _ _ _ _ | exact Kd.N_nil _ _ _ _ _ | exact Kd.V_nil _ _ _ _ _ | exact Kd.Q_nil _ _ _ _ _ | exact Kd.S_nil _ _ _ _ _⟩, ⟨?_⟩, ⟨bB HB⟩⟩ <;> (with_reducible repeat (first | refine g_d ?_ _ | refine g_e ?_ | refine g_a ?_ _ | apply r_a | apply r_d | apply r_e)) <;> first | exact BK182.out | exact HO186.out
  clear H'
  try clear c5
  try clear c8
  try clear c8b0
  try clear c9
  try clear c9b0
  try clear c10
  try clear c10b0
  try clear hcz20_0
  try clear hcz20_1
  try clear hcz20_2
  try clear hcz22_0
  try clear hcz22_1
  try clear hcz22_2
  try clear hcz24_0
  try clear hcz24_1
  try clear hcz24_2
  try clear hfz20_0
  try clear hfz20_1
  try clear hfz20_2
  try clear hfz22_0
  try clear hfz22_1
  try clear hfz22_2
  try clear hfz24_0
  try clear hfz24_1
  try clear hfz24_2
  try clear hx188_0
  try clear p188
  try clear q188
  obtain ⟨x1_1, x9_1, x10_1, rfl, rfl, HA, HK1, HO_8, HO_10, BK182, HB⟩ := hrel
  rcases gk with _ | k1
  · exact absurd HA.out (by simp [spec_FirstKnobs.l0])
  have H := HA.out
  clear HA
  simp only [spec_FirstKnobs.l0] at H
  by_cases c27 : x9_1 > 0
  rotate_left
  · rw [if_neg c27] at H
    have c27b0 : decide (0 < x9_1) = false := decide_eq_false c27
    clear c27
    simp only [Option.some.injEq, Prod.mk.injEq] at H
    obtain ⟨rfl, rfl⟩ := H
    go_wp2
    go_ret2
    exact ⟨_, by first | rfl | (simp [errW_none, errW_some] <;> rfl) | (simp [*, errW_none, errW_some] <;> rfl), by (with_reducible repeat (first | apply r_a | apply r_d | apply r_e)); exact HO_10.out, bB HB⟩
  rw [if_pos c27] at H
  have c27b0 : decide (0 < x9_1) = true := decide_eq_true c27
  clear c27
  have H' := Aside0.mk H
  clear H
  go_wp2
  go_loopg [1, 10, 11, 12] k1 (fun kq v1 v10 v11 v12 w' => ∃ (x1_2 : ByteArray) (x10_2 : List (S48)) (x11_2 : Bool) (x12_2 : Int), v1 = .string x1_2 ∧ v11 = .bool x11_2 ∧ v12 = .int .i64 x12_2 ∧ Aside0 (spec_FirstKnobs.l1 kq x1_2 t184 x9_1 x10_2 x11_2 x12_2 a0_0 a0_1 l0_2 = some (r1, r2)) ∧ Aside0 (kq ≤ k1) ∧ Aside0 (Kd.R (Kd.int .i64) 3 w' w.heap.size (fun _ => True) (.slice (some ad188) t184.length co26) t184) ∧ Aside0 (Kd.R k48 48 w' w.heap.size (fun _ => True) v10 x10_2) ∧ Aside0 (w'.heap[gb182]? = some (.cells #[.int .i64 a0_0, .int .i64 a0_1, (.slice A0_2 l0_2.length c0_2)] 33 (0, 0))) ∧ Aside0 (Below w.heap.size w w'))
  case atStart => refine ⟨(x1_1), (x10_1), (false), (0), (by first | rfl | (simp; done) | (simp [*]; done)), (by first | rfl | (simp; done) | (simp [*]; done)), (by first | rfl | (simp; done) | (simp [*]; done)), H', ⟨Nat.le_refl _⟩, ⟨?_⟩, ⟨?_⟩, ⟨?_⟩, ⟨bB HB⟩⟩ <;> (with_reducible repeat (first | refine g_d ?_ _ | refine g_e ?_ | refine g_a ?_ _ | apply r_a | apply r_d | apply r_e)) <;> first | exact BK182.out | exact HO_8.out | exact HO_10.out
  clear H'
  try clear c27
  try clear c27b0
  obtain ⟨x1_2, x10_2, x11_2, x12_2, rfl, rfl, rfl, HA, HK2, HO_8, HO_10, BK182, HB⟩ := hrel
  rcases gk with _ | k2
  · exact absurd HA.out (by simp [spec_FirstKnobs.l1])
  have H := HA.out
  clear HA
  simp only [spec_FirstKnobs.l1] at H
  have HC28 := Aside0.mk H
  clear H
  go_upto_region 12 with (fail)
  go_cut [44] (fun v44 wc => ∃ (kq : Nat) (x44_27 : Bool), v44 = .bool x44_27 ∧ Aside0 (spec_FirstKnobs.j2 kq x1_2 t184 x9_1 x10_2 x11_2 x12_2 x44_27 a0_0 a0_1 l0_2 = some (r1, r2)) ∧ Aside0 (kq ≤ k2) ∧ Aside0 (Kd.R (Kd.int .i64) 3 wc w.heap.size (fun _ => True) (.slice (some ad188) t184.length co26) t184) ∧ Aside0 (Kd.R k48 48 wc w.heap.size (fun _ => True) u10 x10_2) ∧ Aside0 (wc.heap[gb182]? = some (.cells #[.int .i64 a0_0, .int .i64 a0_1, (.slice A0_2 l0_2.length c0_2)] 33 (0, 0))) ∧ Aside0 (Below w.heap.size w wc))
  case first =>
    have H := HC28.out
    clear HC28
    by_cases c29 : x12_2 < (l0_2.length : Int)
    rotate_left
    · rw [if_neg c29] at H
      have c29b0 : decide (x12_2 < (l0_2.length : Int)) = false := decide_eq_false c29
      clear c29
      (first | rw [c29b0] | (simp only [i64_w, i32_w]; rw [c29b0]) | skip)
      have H' := Aside0.mk H
      clear H
      have hcz31_0 : wr.cell? ⟨gb182, 0, none⟩ = some (.int .i64 a0_0) := (blk_cell BK182.out 0).trans rfl
      have hcz31_1 : wr.cell? ⟨gb182, 1, none⟩ = some (.int .i64 a0_1) := (blk_cell BK182.out 1).trans rfl
      have hcz31_2 : wr.cell? ⟨gb182, 2, none⟩ = some (.slice A0_2 l0_2.length c0_2) := (blk_cell BK182.out 2).trans rfl
      have hfz31_0 := blk_frozen BK182.out 0
      have hfz31_1 := blk_frozen BK182.out 1
      have hfz31_2 := blk_frozen BK182.out 2
      go_wp2
      go_meet
      case rel => refine ⟨_, (false), (by first | rfl | (simp; done) | (simp [*]; done)), H', ⟨by have := HK1.out; have := HK2.out; first | omega | exact Nat.le_refl _⟩, ⟨?_⟩, ⟨?_⟩, ⟨?_⟩, ⟨bB HB⟩⟩ <;> (with_reducible repeat (first | refine g_d ?_ _ | refine g_e ?_ | refine g_a ?_ _ | apply r_a | apply r_d | apply r_e)) <;> first | exact BK182.out | exact HO_8.out | exact HO_10.out
    rw [if_pos c29] at H
    have c29b0 : decide (x12_2 < (l0_2.length : Int)) = true := decide_eq_true c29
    clear c29
    (first | rw [c29b0] | (simp only [i64_w, i32_w]; rw [c29b0]) | skip)
    have H' := Aside0.mk H
    clear H
    have hcz30_0 : wr.cell? ⟨gb182, 0, none⟩ = some (.int .i64 a0_0) := (blk_cell BK182.out 0).trans rfl
    have hcz30_1 : wr.cell? ⟨gb182, 1, none⟩ = some (.int .i64 a0_1) := (blk_cell BK182.out 1).trans rfl
    have hcz30_2 : wr.cell? ⟨gb182, 2, none⟩ = some (.slice A0_2 l0_2.length c0_2) := (blk_cell BK182.out 2).trans rfl
    have hfz30_0 := blk_frozen BK182.out 0
    have hfz30_1 := blk_frozen BK182.out 1
    have hfz30_2 := blk_frozen BK182.out 2
    go_wp2
    go_meet
    case rel => refine ⟨_, (!x11_2), (by first | rfl | (simp; done) | (simp [*]; done)), H', ⟨by have := HK1.out; have := HK2.out; first | omega | exact Nat.le_refl _⟩, ⟨?_⟩, ⟨?_⟩, ⟨?_⟩, ⟨bB HB⟩⟩ <;> (with_reducible repeat (first | refine g_d ?_ _ | refine g_e ?_ | refine g_a ?_ _ | apply r_a | apply r_d | apply r_e)) <;> first | exact BK182.out | exact HO_8.out | exact HO_10.out
  clear HC28
  obtain ⟨kq, x44_27, rfl, HA, HJ27, HO_8, HO_10, BK182, HB⟩ := hcut
  rcases kq with _ | kj27
  · exact absurd HA.out (by simp [spec_FirstKnobs.j2])
  have H := HA.out
  clear HA
  simp only [spec_FirstKnobs.j2] at H
  by_cases c32 : x44_27 = true
  rotate_left
  · replace c32 := Bool.eq_false_iff.mpr c32
    subst c32
    rw [if_neg (show ¬ (false = true) by decide)] at H
    have H' := Aside0.mk H
    clear H
    go_wp2
    go_roundg kj27
    case measure => have := HK1.out; have := HK2.out; have := HJ27.out; omega
    case rel => refine ⟨(x1_2), (wrap64 (x9_1 - 1)), (x10_2), (by first | rfl | (simp; done) | (simp [*]; done)), (by first | rfl | (simp; done) | (simp [*]; done)), H', ⟨by have := HK1.out; have := HK2.out; have := HJ27.out; omega⟩, ⟨?_⟩, ⟨?_⟩, ⟨?_⟩, ⟨bB HB⟩⟩ <;> (with_reducible repeat (first | refine g_d ?_ _ | refine g_e ?_ | refine g_a ?_ _ | apply r_a | apply r_d | apply r_e)) <;> first | exact BK182.out | exact HO_8.out | exact HO_10.out
  subst c32
  rw [if_pos rfl] at H
  have H' := Aside0.mk H
  clear H
  go_wp2
  go_loopg [1, 10, 11, 13] kj27 (fun kq v1 v10 v11 v13 w' => ∃ (x1_4 : ByteArray) (x10_4 : List (S48)) (x11_4 : Bool) (x13_4 : Int), v1 = .string x1_4 ∧ v11 = .bool x11_4 ∧ v13 = .int .i64 x13_4 ∧ Aside0 (spec_FirstKnobs.l2 kq x1_4 t184 x9_1 x10_4 x11_4 x12_2 x13_4 a0_0 a0_1 l0_2 = some (r1, r2)) ∧ Aside0 (kq ≤ kj27) ∧ Aside0 (Kd.R (Kd.int .i64) 3 w' w.heap.size (fun _ => True) (.slice (some ad188) t184.length co26) t184) ∧ Aside0 (Kd.R k48 48 w' w.heap.size (fun _ => True) v10 x10_4) ∧ Aside0 (w'.heap[gb182]? = some (.cells #[.int .i64 a0_0, .int .i64 a0_1, (.slice A0_2 l0_2.length c0_2)] 33 (0, 0))) ∧ Aside0 (Below w.heap.size w w'))
  case atStart => refine ⟨(x1_2), (x10_2), (x11_2), (1), (by first | rfl | (simp; done) | (simp [*]; done)), (by first | rfl | (simp; done) | (simp [*]; done)), (by first | rfl | (simp; done) | (simp [*]; done)), H', ⟨Nat.le_refl _⟩, ⟨?_⟩, ⟨?_⟩, ⟨?_⟩, ⟨bB HB⟩⟩ <;> (with_reducible repeat (first | refine g_d ?_ _ | refine g_e ?_ | refine g_a ?_ _ | apply r_a | apply r_d | apply r_e)) <;> first | exact BK182.out | exact HO_8.out | exact HO_10.out
  clear H'
  try clear c32
  obtain ⟨x1_4, x10_4, x11_4, x13_4, rfl, rfl, rfl, HA, HK4, HO_8, HO_10, BK182, HB⟩ := hrel
  rcases gk with _ | k4
  · exact absurd HA.out (by simp [spec_FirstKnobs.l2])
  have H := HA.out
  clear HA
  simp only [spec_FirstKnobs.l2] at H
  have HC33 := Aside0.mk H
  clear H
  go_upto_region 15 with (fail)
  go_cut [52] (fun v52 wc => ∃ (kq : Nat) (x52_32 : Bool), v52 = .bool x52_32 ∧ Aside0 (spec_FirstKnobs.j4 kq x1_4 t184 x9_1 x10_4 x11_4 x12_2 x13_4 x52_32 a0_0 a0_1 l0_2 = some (r1, r2)) ∧ Aside0 (kq ≤ k4) ∧ Aside0 (Kd.R (Kd.int .i64) 3 wc w.heap.size (fun _ => True) (.slice (some ad188) t184.length co26) t184) ∧ Aside0 (Kd.R k48 48 wc w.heap.size (fun _ => True) u10 x10_4) ∧ Aside0 (wc.heap[gb182]? = some (.cells #[.int .i64 a0_0, .int .i64 a0_1, (.slice A0_2 l0_2.length c0_2)] 33 (0, 0))) ∧ Aside0 (Below w.heap.size w wc))
  case first =>
    have H := HC33.out
    clear HC33
    by_cases c34 : x13_4 > (-2)
    rotate_left
    · rw [if_neg c34] at H
      have c34b0 : decide ((-2) < x13_4) = false := decide_eq_false c34
      clear c34
      (first | rw [c34b0] | (simp only [i64_w, i32_w]; rw [c34b0]) | skip)
      have H' := Aside0.mk H
      clear H
      go_wp2
      go_meet
      case rel => refine ⟨_, (false), (by first | rfl | (simp; done) | (simp [*]; done)), H', ⟨by have := HK1.out; have := HK2.out; have := HJ27.out; have := HK4.out; first | omega | exact Nat.le_refl _⟩, ⟨?_⟩, ⟨?_⟩, ⟨?_⟩, ⟨bB HB⟩⟩ <;> (with_reducible repeat (first | refine g_d ?_ _ | refine g_e ?_ | refine g_a ?_ _ | apply r_a | apply r_d | apply r_e)) <;> first | exact BK182.out | exact HO_8.out | exact HO_10.out
    rw [if_pos c34] at H
    have c34b0 : decide ((-2) < x13_4) = true := decide_eq_true c34
    clear c34
    (first | rw [c34b0] | (simp only [i64_w, i32_w]; rw [c34b0]) | skip)
    have H' := Aside0.mk H
    clear H
    go_wp2
    go_meet
    case rel => refine ⟨_, (!x11_4), (by first | rfl | (simp; done) | (simp [*]; done)), H', ⟨by have := HK1.out; have := HK2.out; have := HJ27.out; have := HK4.out; first | omega | exact Nat.le_refl _⟩, ⟨?_⟩, ⟨?_⟩, ⟨?_⟩, ⟨bB HB⟩⟩ <;> (with_reducible repeat (first | refine g_d ?_ _ | refine g_e ?_ | refine g_a ?_ _ | apply r_a | apply r_d | apply r_e)) <;> first | exact BK182.out | exact HO_8.out | exact HO_10.out
  clear HC33
  obtain ⟨kq, x52_32, rfl, HA, HJ32, HO_8, HO_10, BK182, HB⟩ := hcut
  rcases kq with _ | kj32
  · exact absurd HA.out (by simp [spec_FirstKnobs.j4])
  have H := HA.out
  clear HA
  simp only [spec_FirstKnobs.j4] at H
  by_cases c35 : x52_32 = true
  rotate_left
  · replace c35 := Bool.eq_false_iff.mpr c35
    subst c35
    rw [if_neg (show ¬ (false = true) by decide)] at H
    have H' := Aside0.mk H
    clear H
    go_wp2
    go_roundg kj32
    case measure => have := HK1.out; have := HK2.out; have := HJ27.out; have := HK4.out; have := HJ32.out; omega
    case rel => refine ⟨(x1_4), (x10_4), (x11_4), (wrap64 (x12_2 + 1)), (by first | rfl | (simp; done) | (simp [*]; done)), (by first | rfl | (simp; done) | (simp [*]; done)), (by first | rfl | (simp; done) | (simp [*]; done)), H', ⟨by have := HK1.out; have := HK2.out; have := HJ27.out; have := HK4.out; have := HJ32.out; omega⟩, ⟨?_⟩, ⟨?_⟩, ⟨?_⟩, ⟨bB HB⟩⟩ <;> (with_reducible repeat (first | refine g_d ?_ _ | refine g_e ?_ | refine g_a ?_ _ | apply r_a | apply r_d | apply r_e)) <;> first | exact BK182.out | exact HO_8.out | exact HO_10.out
  subst c35
  rw [if_pos rfl] at H
  replace H := Option.bind_eq_some_iff.mp H
  obtain ⟨t189, A360, H⟩ := H
  try dsimp only at H
  have A36 := Aside0.mk A360
  clear A360
  replace H := Option.bind_eq_some_iff.mp H
  obtain ⟨t190, A370, H⟩ := H
  try dsimp only at H
  have A37 := Aside0.mk A370
  clear A370
  by_cases c38 : 0 ≤ t190
  rotate_left
  · rw [if_neg c38] at H
    exact absurd H (by simp)
  rw [if_pos c38] at H
  have c38b0 : decide (0 ≤ t190) = true := decide_eq_true c38
  clear c38
  by_cases c39 : t190 < (t184.length : Int)
  rotate_left
  · rw [if_neg c39] at H
    exact absurd H (by simp)
  rw [if_pos c39] at H
  have c39b0 : decide (t190 < (t184.length : Int)) = true := decide_eq_true c39
  clear c39
  by_cases c40 : (rd t184 t190) = (wrap64 (x9_1 - 1))
  rotate_left
  · rw [if_neg c40] at H
    have c40b0 : ((rd t184 t190) == (wrap64 (x9_1 - 1))) = false := beq_eq_false_iff_ne.mpr c40
    have c40b1 : ((rd t184 t190) != (wrap64 (x9_1 - 1))) = true := bne_iff_ne.mpr c40
    have H' := Aside0.mk H
    clear H
    have hcz47_0 : wc.cell? ⟨gb182, 0, none⟩ = some (.int .i64 a0_0) := (blk_cell BK182.out 0).trans rfl
    have hcz47_1 : wc.cell? ⟨gb182, 1, none⟩ = some (.int .i64 a0_1) := (blk_cell BK182.out 1).trans rfl
    have hcz47_2 : wc.cell? ⟨gb182, 2, none⟩ = some (.slice A0_2 l0_2.length c0_2) := (blk_cell BK182.out 2).trans rfl
    have hfz47_0 := blk_frozen BK182.out 0
    have hfz47_1 := blk_frozen BK182.out 1
    have hfz47_2 := blk_frozen BK182.out 2
    go_wp2_with (first | ((with_reducible refine gate_callee (f := 37) rfl ?_); refine goesL_ (some 59) rfl rfl Try.func37 (by kernel_rfl) rfl #[.agg #[.int .i64 a0_0, .int .i64 a0_1, .slice A0_2 l0_2.length c0_2], .string x1_4, .int .i64 x12_2, .int .i64 x13_4] rfl (by (try simp only [m_1, m_2, m_3]); first | done | rfl | (simp only [m_4, m_5]; rfl)) ?_; (with_reducible refine (spec_joTurn.calls kj32 a0_0 a0_1 _ _ l0_2 x1_4 x12_2 x13_4 t189 _ ?side1 ?side2 A36.out).mono ?_); (case side1 => repeat (first | exact (Kd.C_below HR0_2.out HB.out) | (with_reducible refine Kd.C_alloc ?_ _) | (with_reducible refine Kd.C_drewN ?_ _) | (with_reducible refine Kd.C_drew ?_))); (case side2 => exact HC0_2.out); rintro e w48 ⟨rfl, hb⟩; refine ⟨_, rfl, ?_⟩; have n0_ := Aside0.mk (Kd.R_below (by (with_reducible repeat (first | apply r_a | apply r_d | apply r_e)); exact HO_8.out) hb); have n1_ := Aside0.mk (Kd.R_below (by (with_reducible repeat (first | apply r_a | apply r_d | apply r_e)); exact HO_10.out) hb); replace BK182 := bbx hb BK182; replace HB := bsx hb HB; clear HO_8; clear HO_10; have HO_8 := n0_; have HO_10 := n1_; clear n0_ n1_; (try clear hb); (try clear hb2); (try clear hk); (try clear hi); have hcz49_0 : w48.cell? ⟨gb182, 0, none⟩ = some (.int .i64 a0_0) := (blk_cell BK182.out 0).trans rfl; have hcz49_1 : w48.cell? ⟨gb182, 1, none⟩ = some (.int .i64 a0_1) := (blk_cell BK182.out 1).trans rfl; have hcz49_2 : w48.cell? ⟨gb182, 2, none⟩ = some (.slice A0_2 l0_2.length c0_2) := (blk_cell BK182.out 2).trans rfl; have hfz49_0 := blk_frozen BK182.out 0; have hfz49_1 := blk_frozen BK182.out 1; have hfz49_2 := blk_frozen BK182.out 2) | ((with_reducible refine gate_callee (f := 36) rfl ?_); refine goesL_ (some 64) rfl rfl Try.func36 (by kernel_rfl) rfl #[.agg #[.int .i64 a0_0, .int .i64 a0_1], .string t189] rfl (by (try simp only [m_1, m_2, m_3]); first | done | rfl | (simp only [m_4, m_5]; rfl)) ?_; (with_reducible refine (spec_whNumber.calls kj32 a0_0 a0_1 t189 t190 _ A37.out).mono ?_); rintro e w50 ⟨rfl, hb⟩; refine ⟨_, rfl, ?_⟩; have n0_ := Aside0.mk (Kd.R_below (by (with_reducible repeat (first | apply r_a | apply r_d | apply r_e)); exact HO_8.out) hb); have n1_ := Aside0.mk (Kd.R_below (by (with_reducible repeat (first | apply r_a | apply r_d | apply r_e)); exact HO_10.out) hb); replace BK182 := bbx hb BK182; replace HB := bsx hb HB; clear HO_8; clear HO_10; have HO_8 := n0_; have HO_10 := n1_; clear n0_ n1_; (try clear hb); (try clear hb2); (try clear hk); (try clear hi); have p191 : 0 ≤ (t190 : Int) := of_decide_eq_true (by first | (with_reducible assumption) | assumption); have q191 : t190 < (t184.length : Int) := of_decide_eq_true (by first | (with_reducible assumption) | assumption); obtain ⟨ad191, e191, hx191_0⟩ := Kd.at_int (Kd.R_reads' HO_8.out).2.2 t190 p191 q191; obtain rfl : ad188 = ad191 := (by injection e191); replace p191 := eq_true p191; replace q191 := eq_true q191))
    go_roundg kj32
    case measure => have := HK1.out; have := HK2.out; have := HJ27.out; have := HK4.out; have := HJ32.out; omega
    case rel => refine ⟨(x1_4), (x10_4), (x11_4), (wrap64 (x13_4 - 2)), (by first | rfl | (simp; done) | (simp [*]; done)), (by first | rfl | (simp; done) | (simp [*]; done)), (by first | rfl | (simp; done) | (simp [*]; done)), H', ⟨by have := HK1.out; have := HK2.out; have := HJ27.out; have := HK4.out; have := HJ32.out; omega⟩, ⟨?_⟩, ⟨?_⟩, ⟨?_⟩, ⟨bB HB⟩⟩ <;> (with_reducible repeat (first | refine g_d ?_ _ | refine g_e ?_ | refine g_a ?_ _ | apply r_a | apply r_d | apply r_e)) <;> first | exact BK182.out | exact HO_8.out | exact HO_10.out
  rw [if_pos c40] at H
  have c40b0 : ((rd t184 t190) == (wrap64 (x9_1 - 1))) = true := beq_iff_eq.mpr c40
  have c40b1 : ((rd t184 t190) != (wrap64 (x9_1 - 1))) = false := bne_eq_false_iff_eq.mpr c40
  clear c40
  by_cases c41 : x10_4.length < 8796093022208
  rotate_left
  · rw [if_neg c41] at H
    exact absurd H (by simp)
  rw [if_pos c41] at H
  have LMc41 := Aside0.mk c41
  clear c41
  obtain ⟨y192, hy192⟩ : ∃ y_ : List (S48), y_ = (x10_4 ++ [(⟨x12_2, x13_4⟩ : S48)]) := ⟨_, rfl⟩
  replace H : (spec_FirstKnobs.l2 kj32 t189 t184 x9_1 y192 true x12_2 (wrap64 (x13_4 - 2)) a0_0 a0_1 l0_2) = some (r1, r2) := by first | (rw [hy192]; with_reducible exact H) | (have H2_ := (Option.bind_some _ _).symm.trans H; rw [hy192]; with_reducible exact H2_) | (have H2_ := (Option.bind_some _ _).symm.trans H; with_reducible exact H2_) | with_reducible exact H | (rw [hy192]; exact H) | exact H
  have Ny192 := Aside0.mk hy192
  clear hy192
  have H' := Aside0.mk H
  clear H
  have hcz42_0 : wc.cell? ⟨gb182, 0, none⟩ = some (.int .i64 a0_0) := (blk_cell BK182.out 0).trans rfl
  have hcz42_1 : wc.cell? ⟨gb182, 1, none⟩ = some (.int .i64 a0_1) := (blk_cell BK182.out 1).trans rfl
  have hcz42_2 : wc.cell? ⟨gb182, 2, none⟩ = some (.slice A0_2 l0_2.length c0_2) := (blk_cell BK182.out 2).trans rfl
  have hfz42_0 := blk_frozen BK182.out 0
  have hfz42_1 := blk_frozen BK182.out 1
  have hfz42_2 := blk_frozen BK182.out 2
  go_wp2_with (first | ((with_reducible refine gate_callee (f := 37) rfl ?_); refine goesL_ (some 59) rfl rfl Try.func37 (by kernel_rfl) rfl #[.agg #[.int .i64 a0_0, .int .i64 a0_1, .slice A0_2 l0_2.length c0_2], .string x1_4, .int .i64 x12_2, .int .i64 x13_4] rfl (by (try simp only [m_1, m_2, m_3]); first | done | rfl | (simp only [m_4, m_5]; rfl)) ?_; (with_reducible refine (spec_joTurn.calls kj32 a0_0 a0_1 _ _ l0_2 x1_4 x12_2 x13_4 t189 _ ?side1 ?side2 A36.out).mono ?_); (case side1 => repeat (first | exact (Kd.C_below HR0_2.out HB.out) | (with_reducible refine Kd.C_alloc ?_ _) | (with_reducible refine Kd.C_drewN ?_ _) | (with_reducible refine Kd.C_drew ?_))); (case side2 => exact HC0_2.out); rintro e w43 ⟨rfl, hb⟩; refine ⟨_, rfl, ?_⟩; have n0_ := Aside0.mk (Kd.R_below (by (with_reducible repeat (first | apply r_a | apply r_d | apply r_e)); exact HO_8.out) hb); have n1_ := Aside0.mk (Kd.R_below (by (with_reducible repeat (first | apply r_a | apply r_d | apply r_e)); exact HO_10.out) hb); replace BK182 := bbx hb BK182; replace HB := bsx hb HB; clear HO_8; clear HO_10; have HO_8 := n0_; have HO_10 := n1_; clear n0_ n1_; (try clear hb); (try clear hb2); (try clear hk); (try clear hi); have hcz44_0 : w43.cell? ⟨gb182, 0, none⟩ = some (.int .i64 a0_0) := (blk_cell BK182.out 0).trans rfl; have hcz44_1 : w43.cell? ⟨gb182, 1, none⟩ = some (.int .i64 a0_1) := (blk_cell BK182.out 1).trans rfl; have hcz44_2 : w43.cell? ⟨gb182, 2, none⟩ = some (.slice A0_2 l0_2.length c0_2) := (blk_cell BK182.out 2).trans rfl; have hfz44_0 := blk_frozen BK182.out 0; have hfz44_1 := blk_frozen BK182.out 1; have hfz44_2 := blk_frozen BK182.out 2) | ((with_reducible refine gate_callee (f := 36) rfl ?_); refine goesL_ (some 64) rfl rfl Try.func36 (by kernel_rfl) rfl #[.agg #[.int .i64 a0_0, .int .i64 a0_1], .string t189] rfl (by (try simp only [m_1, m_2, m_3]); first | done | rfl | (simp only [m_4, m_5]; rfl)) ?_; (with_reducible refine (spec_whNumber.calls kj32 a0_0 a0_1 t189 t190 _ A37.out).mono ?_); rintro e w45 ⟨rfl, hb⟩; refine ⟨_, rfl, ?_⟩; have n0_ := Aside0.mk (Kd.R_below (by (with_reducible repeat (first | apply r_a | apply r_d | apply r_e)); exact HO_8.out) hb); have n1_ := Aside0.mk (Kd.R_below (by (with_reducible repeat (first | apply r_a | apply r_d | apply r_e)); exact HO_10.out) hb); replace BK182 := bbx hb BK182; replace HB := bsx hb HB; clear HO_8; clear HO_10; have HO_8 := n0_; have HO_10 := n1_; clear n0_ n1_; (try clear hb); (try clear hb2); (try clear hk); (try clear hi); have p191 : 0 ≤ (t190 : Int) := of_decide_eq_true (by first | (with_reducible assumption) | assumption); have q191 : t190 < (t184.length : Int) := of_decide_eq_true (by first | (with_reducible assumption) | assumption); obtain ⟨ad191, e191, hx191_0⟩ := Kd.at_int (Kd.R_reads' HO_8.out).2.2 t190 p191 q191; obtain rfl : ad188 = ad191 := (by injection e191); replace p191 := eq_true p191; replace q191 := eq_true q191) | ((with_reducible refine gate_builtin (b := .append) (xs := #[.tmp 70, .tmp 74]) rfl ?_); at_builtin; refine Kd.R_append k48 (w0 := w) w.heap.size rfl (.tmp 70) (.tmp 74) 28 48 (.agg #[(.int .i64 0), (.int .i64 0)]) 16 rfl Try.underlying28 info48 rfl (by decide) (by omega) u10 x10_4 (⟨x12_2, x13_4⟩ : S48) [.int .i64 x12_2, .int .i64 x13_4] (fun _ => True) (fun _ => False) rfl rfl ?aP (fun _ hk => hk.elim) ?aF ?aO ?aB ?aS ?aL ?_; (case aP => exact k48_mkM _ _ _ (⟨x12_2, x13_4⟩ : S48)); (case aB => exact (bB HB)); (case aF => exact (fun _ _ => trivial)); (case aO => exact (by (with_reducible repeat (first | apply r_a | apply r_d | apply r_e)); exact HO_10.out)); (case aS => exact (below_size (bB HB))); (case aL => have := LMc41.out; omega); intro v193 w46 ho hb hg hat; rw [← Ny192.out] at ho; have n0_ := Aside0.mk (Kd.R_over' (by (with_reducible repeat (first | apply r_a | apply r_d | apply r_e)); exact HO_8.out) (Kd.R_typed (by (with_reducible repeat (first | apply r_a | apply r_d | apply r_e)); exact HO_10.out)) (by decide) hg); have n1_ := Aside0.mk (blk_grown (g := gb182) (o := .cells #[.int .i64 a0_0, .int .i64 a0_1, .slice A0_2 l0_2.length c0_2] 33 (0, 0)) (bK BK182) hg (Kd.R_ne HO_10.out BK182.out (by decide))); have n2_ := Aside0.mk (hb); have n3_ := Aside0.mk (ho); clear HO_8; clear BK182; clear HB; clear HO_10; have HO_8 := n0_; have BK182 := n1_; have HB := n2_; have HO194 := n3_; clear n0_ n1_ n2_ n3_; clear ho hb hg hat))
  go_roundg kj32
  case measure => have := HK1.out; have := HK2.out; have := HJ27.out; have := HK4.out; have := HJ32.out; omega
  case rel => refine ⟨(t189), (y192), (true), (wrap64 (x13_4 - 2)), (by first | rfl | (simp; done) | (simp [*]; done)), (by first | rfl | (simp; done) | (simp [*]; done)), (by first | rfl | (simp; done) | (simp [*]; done)), H', ⟨by have := HK1.out; have := HK2.out; have := HJ27.out; have := HK4.out; have := HJ32.out; omega⟩, ⟨?_⟩, ⟨?_⟩, ⟨?_⟩, ⟨bB HB⟩⟩ <;> (with_reducible repeat (first | refine g_d ?_ _ | refine g_e ?_ | refine g_a ?_ _ | apply r_a | apply r_d | apply r_e)) <;> first | exact BK182.out | exact HO_8.out | exact HO194.out
/-! ### impl_power: function 99 -/
def impl_power.l0 : Nat → Int → Int → Int → Int → Option (Int)
  | 0, _, _, _, _ => none
  | k + 1, x0, x5, x6, x7 => if x7 < x6 then (impl_power.l0 k x0 (wrap64 (x5 * x0)) x6 (wrap64 (x7 + 1))) else (some x5)
def impl_power.f (k : Nat) (a0 : Int) (a1 : Int) : Option (Int) := impl_power.l0 k a0 1 a1 0
theorem impl_power.mono_l : ∀ k, (∀ y0 y1 y2 y3, LeO (impl_power.l0 k y0 y1 y2 y3) (impl_power.l0 (k + 1) y0 y1 y2 y3))
  | 0 => fun _ _ _ _ r h => by simp [impl_power.l0] at h
  | k + 1 => by
    have ih0 := impl_power.mono_l k
    · intro y0 y1 y2 y3
      unfold impl_power.l0
      repeat' first
      | (with_reducible exact ih0 _ _ _ _)
      | (with_reducible exact LeO.refl _)
      | (with_reducible exact LeO.none _)
      | (with_reducible refine LeO.ite ?_ ?_)
      | (with_reducible refine LeO.bind ?_ (fun _ => ?_))
      | exact ih0 _ _ _ _
      | exact LeO.none _
      | refine LeO.ite ?_ ?_
      | refine LeO.bind ?_ (fun _ => ?_)
theorem impl_power.mono : ∀ a0 a1 k, LeO (impl_power.f k a0 a1) (impl_power.f (k + 1) a0 a1) := by
  intro a0 a1 k
  have ih0 := impl_power.mono_l k
  unfold impl_power.f
  repeat' first
      | (with_reducible exact ih0 _ _ _ _)
      | (with_reducible exact LeO.refl _)
      | (with_reducible exact LeO.none _)
      | (with_reducible refine LeO.ite ?_ ?_)
      | (with_reducible refine LeO.bind ?_ (fun _ => ?_))
      | exact ih0 _ _ _ _
      | exact LeO.none _
      | refine LeO.ite ?_ ?_
      | refine LeO.bind ?_ (fun _ => ?_)
set_option maxHeartbeats 8000000 in
set_option maxRecDepth 100000 in
theorem impl_power.calls (k : Nat) (a0 : Int) (a1 : Int) (r : Int) (w : World) (h : impl_power.f k a0 a1 = some r) :
    Calls Try.prog 99 #[.int .i64 a0, .int .i64 a1] w fun e w' => e = .returned (.int .i64 r) ∧ Drawn0 w w' := by
  have H : (impl_power.l0 k a0 1 a1 0) = some r := h
  clear h
  have H' := Aside0.mk H
  clear H
  go_enter Try.func99, Try.ntmps99
  go_wp2
  go_loopg [5, 7] k (fun kq v5 v7 w' => ∃ (x5_1 : Int) (x7_1 : Int), v5 = .int .i64 x5_1 ∧ v7 = .int .i64 x7_1 ∧ Aside0 (impl_power.l0 kq a0 x5_1 a1 x7_1 = some r) ∧ Aside0 (kq ≤ k) ∧ Drawn0 w w')
  case atStart => exact ⟨(1), (0), (by first | rfl | (simp; done) | (simp [*]; done)), (by first | rfl | (simp; done) | (simp [*]; done)), H', ⟨Nat.le_refl _⟩, by repeat (first | exact Drawn0.refl _ | apply Drawn0.step)⟩
  clear H'
  obtain ⟨x5_1, x7_1, rfl, rfl, HA, HK1, ⟨m1, rfl⟩⟩ := hrel
  rcases gk with _ | k1
  · exact absurd HA.out (by simp [impl_power.l0])
  have H := HA.out
  clear HA
  simp only [impl_power.l0] at H
  by_cases c3 : x7_1 < a1
  rotate_left
  · rw [if_neg c3] at H
    have c3b0 : decide (x7_1 < a1) = false := decide_eq_false c3
    clear c3
    obtain rfl := Option.some.inj H
    go_wp2
    go_ret
    exact ⟨by first | rfl | (simp; done) | (simp [*]; done), by repeat (first | exact Drawn0.refl _ | apply Drawn0.step)⟩

  rw [if_pos c3] at H
  have c3b0 : decide (x7_1 < a1) = true := decide_eq_true c3
  clear c3
  have H' := Aside0.mk H
  clear H
  go_wp2
  go_roundg k1
  case measure => have := HK1.out; omega
  case rel => exact ⟨(wrap64 (x5_1 * a0)), (wrap64 (x7_1 + 1)), (by first | rfl | (simp; done) | (simp [*]; done)), (by first | rfl | (simp; done) | (simp [*]; done)), H', ⟨by have := HK1.out; omega⟩, by repeat (first | exact Drawn0.refl _ | apply Drawn0.step)⟩
/-! ### impl_Lock_count: function 79 -/
def impl_Lock_count.f (k : Nat) (a0_0 : Int) (a0_1 : Int) : Option (Int) := (impl_power.f k a0_1 a0_0).bind fun t220 => (some t220)
theorem impl_Lock_count.mono : ∀ a0 a1 k, LeO (impl_Lock_count.f k a0 a1) (impl_Lock_count.f (k + 1) a0 a1) := by
  intro a0 a1 k
  unfold impl_Lock_count.f
  repeat' first
      | (with_reducible exact impl_power.mono _ _ _)
      | (with_reducible exact LeO.refl _)
      | (with_reducible exact LeO.none _)
      | (with_reducible refine LeO.ite ?_ ?_)
      | (with_reducible refine LeO.bind ?_ (fun _ => ?_))
      | exact impl_power.mono _ _ _
      | exact LeO.none _
      | refine LeO.ite ?_ ?_
      | refine LeO.bind ?_ (fun _ => ?_)
set_option maxHeartbeats 8000000 in
set_option maxRecDepth 100000 in
theorem impl_Lock_count.calls (k : Nat) (a0_0 : Int) (a0_1 : Int) (r : Int) (w : World) (h : impl_Lock_count.f k a0_0 a0_1 = some r) :
    Calls Try.prog 79 #[.agg #[.int .i64 a0_0, .int .i64 a0_1]] w fun e w' => e = .returned (.int .i64 r) ∧ Below w.heap.size w w' := by
  have hu31 := Try.underlying31
  have HB := Aside0.mk (Below.refl w.heap.size w)
  have H : ((impl_power.f k a0_1 a0_0).bind fun t220 => (some t220)) = some r := h
  clear h
  replace H := Option.bind_eq_some_iff.mp H
  obtain ⟨t220, A20, H⟩ := H
  try dsimp only at H
  have A2 := Aside0.mk A20
  clear A20
  obtain rfl := Option.some.inj H
  go_enter Try.func79, Try.ntmps79
  go_wp2_with (first | ((with_reducible refine gate_dst (N := 1) rfl ?_); refine box_event ?hg (N := 1) ?hd (cs := #[.int .i64 a0_0, .int .i64 a0_1]) (t := 31) ?hr ?_; (case hd => rfl); (case hg => rfl); (case hr => first | (go_simp; done) | (go_simp; rfl)); intro gb219 hg w3 hbox hb; have n0_ := bsx hb HB; have n1_ := Aside0.mk (hbox); have n2_ := gwx hg HB; have n3_ := n2_; clear HB; have HB := n0_; have BK219 := n1_; have GW219 := n2_; have GE219 := n3_; clear n0_ n1_ n2_ n3_; clear hb hbox hg; have hcz4_0 := cz0 BK219; have hcz4_1 := cz1 BK219; have hfz4_0 := blk_frozen BK219.out 0; have hfz4_1 := blk_frozen BK219.out 1) | ((with_reducible refine gate_callee (f := 99) rfl ?_); refine goesL_ (some 7) rfl rfl Try.func99 (by kernel_rfl) rfl #[.int .i64 a0_1, .int .i64 a0_0] rfl (by (try simp only [m_1, m_2, m_3]); first | done | rfl | (simp only [m_4, m_5]; rfl)) ?_; (with_reducible refine (impl_power.calls k a0_1 a0_0 t220 _ A2.out).mono ?_); rintro e w' ⟨rfl, ⟨nd, rfl⟩⟩; refine ⟨_, rfl, ?_⟩))
  go_ret
  exact ⟨by first | rfl | (simp [errW_none, errW_some] <;> rfl) | (simp [*, errW_none, errW_some] <;> rfl), bB HB⟩

/-! ### impl_within: function 52 -/
def impl_within.f (a0 : Int) (a1 : Int) (a2 : Int) : Option (Bool) := if a1 ≤ a0 then (some (decide (a0 ≤ a2))) else (some false)
set_option maxHeartbeats 8000000 in
set_option maxRecDepth 100000 in
theorem impl_within.calls (a0 : Int) (a1 : Int) (a2 : Int) (r : Bool) (w : World) (h : impl_within.f a0 a1 a2 = some r) :
    Calls Try.prog 52 #[.int .i64 a0, .int .i64 a1, .int .i64 a2] w fun e w' => e = .returned (.bool r) ∧ Drawn0 w w' := by
  have H : (if a1 ≤ a0 then (some (decide (a0 ≤ a2))) else (some false)) = some r := h
  clear h
  by_cases c4 : a1 ≤ a0
  · rw [if_pos c4] at H
    have c4b0 : decide (a1 ≤ a0) = true := decide_eq_true c4
    clear c4
    obtain rfl := Option.some.inj H
    go_enter Try.func52, Try.ntmps52
    go_wp2
    go_ret
    exact ⟨by first | rfl | (simp; done) | (simp [*]; done), by repeat (first | exact Drawn0.refl _ | apply Drawn0.step)⟩
  rw [if_neg c4] at H
  have c4b0 : decide (a1 ≤ a0) = false := decide_eq_false c4
  clear c4
  obtain rfl := Option.some.inj H
  go_enter Try.func52, Try.ntmps52
  go_wp2
  go_ret
  exact ⟨by first | rfl | (simp; done) | (simp [*]; done), by repeat (first | exact Drawn0.refl _ | apply Drawn0.step)⟩

/-! ### impl_IsLock: function 86 -/
def impl_IsLock.f (a0_0 : Int) (a0_1 : Int) : Option (Bool) := (impl_within.f a0_0 1 6).bind fun t222 => (if t222 = true then ((impl_within.f a0_1 2 10).bind fun t223 => (some t223)) else (some false))
set_option maxHeartbeats 8000000 in
set_option maxRecDepth 100000 in
theorem impl_IsLock.calls (a0_0 : Int) (a0_1 : Int) (r : Bool) (w : World) (h : impl_IsLock.f a0_0 a0_1 = some r) :
    Calls Try.prog 86 #[.agg #[.int .i64 a0_0, .int .i64 a0_1]] w fun e w' => e = .returned (.bool r) ∧ Below w.heap.size w w' := by
  have hu31 := Try.underlying31
  have HB := Aside0.mk (Below.refl w.heap.size w)
  have H : ((impl_within.f a0_0 1 6).bind fun t222 => (if t222 = true then ((impl_within.f a0_1 2 10).bind fun t223 => (some t223)) else (some false))) = some r := h
  clear h
  replace H := Option.bind_eq_some_iff.mp H
  obtain ⟨t222, A20, H⟩ := H
  try dsimp only at H
  have A2 := Aside0.mk A20
  clear A20
  by_cases c3 : t222 = true
  rotate_left
  · replace c3 := Bool.eq_false_iff.mpr c3
    subst c3
    rw [if_neg (show ¬ (false = true) by decide)] at H
    obtain rfl := Option.some.inj H
    go_enter Try.func86, Try.ntmps86
    go_wp2_with (first | ((with_reducible refine gate_dst (N := 1) rfl ?_); refine box_event ?hg (N := 1) ?hd (cs := #[.int .i64 a0_0, .int .i64 a0_1]) (t := 31) ?hr ?_; (case hd => rfl); (case hg => rfl); (case hr => first | (go_simp; done) | (go_simp; rfl)); intro gb221 hg w7 hbox hb; have n0_ := bsx hb HB; have n1_ := Aside0.mk (hbox); have n2_ := gwx hg HB; have n3_ := n2_; clear HB; have HB := n0_; have BK221 := n1_; have GW221 := n2_; have GE221 := n3_; clear n0_ n1_ n2_ n3_; clear hb hbox hg; have hcz8_0 := cz0 BK221; have hcz8_1 := cz1 BK221; have hfz8_0 := blk_frozen BK221.out 0; have hfz8_1 := blk_frozen BK221.out 1) | ((with_reducible refine gate_callee (f := 52) rfl ?_); refine goesL_ (some 5) rfl rfl Try.func52 (by kernel_rfl) rfl #[.int .i64 a0_0, .int .i64 1, .int .i64 6] rfl (by (try simp only [m_1, m_2, m_3]); first | done | rfl | (simp only [m_4, m_5]; rfl)) ?_; (with_reducible refine (impl_within.calls a0_0 1 6 false _ A2.out).mono ?_); rintro e w' ⟨rfl, ⟨nd, rfl⟩⟩; refine ⟨_, rfl, ?_⟩))
    go_ret
    exact ⟨by first | rfl | (simp [errW_none, errW_some] <;> rfl) | (simp [*, errW_none, errW_some] <;> rfl), bB HB⟩

  subst c3
  rw [if_pos rfl] at H
  replace H := Option.bind_eq_some_iff.mp H
  obtain ⟨t223, A40, H⟩ := H
  try dsimp only at H
  have A4 := Aside0.mk A40
  clear A40
  obtain rfl := Option.some.inj H
  go_enter Try.func86, Try.ntmps86
  go_wp2_with (first | ((with_reducible refine gate_dst (N := 1) rfl ?_); refine box_event ?hg (N := 1) ?hd (cs := #[.int .i64 a0_0, .int .i64 a0_1]) (t := 31) ?hr ?_; (case hd => rfl); (case hg => rfl); (case hr => first | (go_simp; done) | (go_simp; rfl)); intro gb221 hg w5 hbox hb; have n0_ := bsx hb HB; have n1_ := Aside0.mk (hbox); have n2_ := gwx hg HB; have n3_ := n2_; clear HB; have HB := n0_; have BK221 := n1_; have GW221 := n2_; have GE221 := n3_; clear n0_ n1_ n2_ n3_; clear hb hbox hg; have hcz6_0 := cz0 BK221; have hcz6_1 := cz1 BK221; have hfz6_0 := blk_frozen BK221.out 0; have hfz6_1 := blk_frozen BK221.out 1) | ((with_reducible refine gate_callee (f := 52) rfl ?_); refine goesL_ (some 5) rfl rfl Try.func52 (by kernel_rfl) rfl #[.int .i64 a0_0, .int .i64 1, .int .i64 6] rfl (by (try simp only [m_1, m_2, m_3]); first | done | rfl | (simp only [m_4, m_5]; rfl)) ?_; (with_reducible refine (impl_within.calls a0_0 1 6 true _ A2.out).mono ?_); rintro e w' ⟨rfl, ⟨nd, rfl⟩⟩; refine ⟨_, rfl, ?_⟩) | (go_at_call 52; (with_reducible refine (impl_within.calls a0_1 2 10 t223 _ A4.out).mono ?_); rintro e w' ⟨rfl, ⟨nd, rfl⟩⟩))
  go_ret
  exact ⟨by first | rfl | (simp [errW_none, errW_some] <;> rfl) | (simp [*, errW_none, errW_some] <;> rfl), bB HB⟩
/-! ### impl_isSmall: function 51 -/
def impl_isSmall.f (k : Nat) (a0_0 : Int) (a0_1 : Int) (a1 : Int) : Option (Bool) := (impl_IsLock.f a0_0 a0_1).bind fun t225 => (if t225 = true then ((impl_Lock_count.f k a0_0 a0_1).bind fun t226 => (some (decide (t226 ≤ a1)))) else (some false))
theorem impl_isSmall.mono : ∀ a0 a1 a2 k, LeO (impl_isSmall.f k a0 a1 a2) (impl_isSmall.f (k + 1) a0 a1 a2) := by
  intro a0 a1 a2 k
  unfold impl_isSmall.f
  repeat' first
      | (with_reducible exact impl_Lock_count.mono _ _ _)
      | (with_reducible exact LeO.refl _)
      | (with_reducible exact LeO.none _)
      | (with_reducible refine LeO.ite ?_ ?_)
      | (with_reducible refine LeO.bind ?_ (fun _ => ?_))
      | exact impl_Lock_count.mono _ _ _
      | exact LeO.none _
      | refine LeO.ite ?_ ?_
      | refine LeO.bind ?_ (fun _ => ?_)
set_option maxHeartbeats 8000000 in
set_option maxRecDepth 100000 in
theorem impl_isSmall.calls (k : Nat) (a0_0 : Int) (a0_1 : Int) (a1 : Int) (r : Bool) (w : World) (h : impl_isSmall.f k a0_0 a0_1 a1 = some r) :
    Calls Try.prog 51 #[.agg #[.int .i64 a0_0, .int .i64 a0_1], .int .i64 a1] w fun e w' => e = .returned (.bool r) ∧ Below w.heap.size w w' := by
  have hu31 := Try.underlying31
  have HB := Aside0.mk (Below.refl w.heap.size w)
  have H : ((impl_IsLock.f a0_0 a0_1).bind fun t225 => (if t225 = true then ((impl_Lock_count.f k a0_0 a0_1).bind fun t226 => (some (decide (t226 ≤ a1)))) else (some false))) = some r := h
  clear h
  replace H := Option.bind_eq_some_iff.mp H
  obtain ⟨t225, A30, H⟩ := H
  try dsimp only at H
  have A3 := Aside0.mk A30
  clear A30
  by_cases c4 : t225 = true
  rotate_left
  · replace c4 := Bool.eq_false_iff.mpr c4
    subst c4
    rw [if_neg (show ¬ (false = true) by decide)] at H
    obtain rfl := Option.some.inj H
    go_enter Try.func51, Try.ntmps51
    go_wp2_with (first | ((with_reducible refine gate_dst (N := 2) rfl ?_); refine box_event ?hg (N := 2) ?hd (cs := #[.int .i64 a0_0, .int .i64 a0_1]) (t := 31) ?hr ?_; (case hd => rfl); (case hg => rfl); (case hr => first | (go_simp; done) | (go_simp; rfl)); intro gb224 hg w11 hbox hb; have n0_ := bsx hb HB; have n1_ := Aside0.mk (hbox); have n2_ := gwx hg HB; have n3_ := n2_; clear HB; have HB := n0_; have BK224 := n1_; have GW224 := n2_; have GE224 := n3_; clear n0_ n1_ n2_ n3_; clear hb hbox hg; have hcz12_0 := cz0 BK224; have hcz12_1 := cz1 BK224; have hfz12_0 := blk_frozen BK224.out 0; have hfz12_1 := blk_frozen BK224.out 1) | ((with_reducible refine gate_callee (f := 86) rfl ?_); refine goesL_ (some 6) rfl rfl Try.func86 (by kernel_rfl) rfl #[.agg #[.int .i64 a0_0, .int .i64 a0_1]] rfl (by (try simp only [m_1, m_2, m_3]); first | done | rfl | (simp only [m_4, m_5]; rfl)) ?_; (with_reducible refine (impl_IsLock.calls a0_0 a0_1 false _ A3.out).mono ?_); rintro e w13 ⟨rfl, hb⟩; refine ⟨_, rfl, ?_⟩; replace BK224 := bbx hb BK224; replace HB := bsx hb HB; skip; (try clear hb); (try clear hb2); (try clear hk); (try clear hi)))
    go_ret
    exact ⟨by first | rfl | (simp [errW_none, errW_some] <;> rfl) | (simp [*, errW_none, errW_some] <;> rfl), bB HB⟩

  subst c4
  rw [if_pos rfl] at H
  replace H := Option.bind_eq_some_iff.mp H
  obtain ⟨t226, A50, H⟩ := H
  try dsimp only at H
  have A5 := Aside0.mk A50
  clear A50
  obtain rfl := Option.some.inj H
  go_enter Try.func51, Try.ntmps51
  go_wp2_with (first | ((with_reducible refine gate_dst (N := 2) rfl ?_); refine box_event ?hg (N := 2) ?hd (cs := #[.int .i64 a0_0, .int .i64 a0_1]) (t := 31) ?hr ?_; (case hd => rfl); (case hg => rfl); (case hr => first | (go_simp; done) | (go_simp; rfl)); intro gb224 hg w6 hbox hb; have n0_ := bsx hb HB; have n1_ := Aside0.mk (hbox); have n2_ := gwx hg HB; have n3_ := n2_; clear HB; have HB := n0_; have BK224 := n1_; have GW224 := n2_; have GE224 := n3_; clear n0_ n1_ n2_ n3_; clear hb hbox hg; have hcz7_0 := cz0 BK224; have hcz7_1 := cz1 BK224; have hfz7_0 := blk_frozen BK224.out 0; have hfz7_1 := blk_frozen BK224.out 1) | ((with_reducible refine gate_callee (f := 86) rfl ?_); refine goesL_ (some 6) rfl rfl Try.func86 (by kernel_rfl) rfl #[.agg #[.int .i64 a0_0, .int .i64 a0_1]] rfl (by (try simp only [m_1, m_2, m_3]); first | done | rfl | (simp only [m_4, m_5]; rfl)) ?_; (with_reducible refine (impl_IsLock.calls a0_0 a0_1 true _ A3.out).mono ?_); rintro e w8 ⟨rfl, hb⟩; refine ⟨_, rfl, ?_⟩; replace BK224 := bbx hb BK224; replace HB := bsx hb HB; skip; (try clear hb); (try clear hb2); (try clear hk); (try clear hi); have hcz9_0 := cz0 BK224; have hcz9_1 := cz1 BK224; have hfz9_0 := blk_frozen BK224.out 0; have hfz9_1 := blk_frozen BK224.out 1) | (go_at_call 79; (with_reducible refine (impl_Lock_count.calls k a0_0 a0_1 t226 _ A5.out).mono ?_); rintro e w10 ⟨rfl, hb⟩; replace BK224 := bbx hb BK224; replace HB := bsx hb HB; skip; (try clear hb); (try clear hb2); (try clear hk); (try clear hi)))
  go_ret
  exact ⟨by first | rfl | (simp [errW_none, errW_some] <;> rfl) | (simp [*, errW_none, errW_some] <;> rfl), bB HB⟩
end Go.Proofs.Ytiacdekbleebjaa.P
