-- Texts of this session's own program (wip/dr.py), which runs the kit's printer.
import Derived.Test.YtiacdekbleebjaaPx0
import Derived.Test.YtiacdekbleebjaaPx20
namespace Go.Proofs.Ytiacdekbleebjaa.P
open Go.RowKit Go.Proofs.YtiacdekbleebjaaW.PrintWords Go.Proofs.YtiacdekbleebjaaW.PrintLast Go.Proofs.YtiacdekbleebjaaW.PrintMore
attribute [local go_sem] max2_int min2_int max_two min_two max_three min_three max_four min_four   -- for this text's walks alone
set_option linter.unusedVariables false
set_option linter.unusedSimpArgs false

/-! ### impl_AreGears: function 21 -/
mutual
def impl_AreGears.j0 : Nat → Bool → Int → Int → List (List Int) → Option (Bool)
  | 0, _, _, _, _ => none
  | k + 1, x17, x228000, x228001, x228002 => if x17 = true then (some false) else (impl_AreGears.l0 k x228002 (x228002.length : Int) 0 x228000 x228001 x228002)
def impl_AreGears.l0 : Nat → List (List Int) → Int → Int → Int → Int → List (List Int) → Option (Bool)
  | 0, _, _, _, _, _, _ => none
  | k + 1, x19, x20, x21, x228000, x228001, x228002 => if x21 < x20 then (if 0 ≤ x21 then (if x21 < (x19.length : Int) then (if ((rd_L1 x19 x21).length : Int) = x228000 then (impl_AreGears.l1 k x19 x20 x21 (rd_L1 x19 x21) ((rd_L1 x19 x21).length : Int) 0 x228000 x228001 x228002) else (some false)) else (none)) else (none)) else (some true)
def impl_AreGears.l1 : Nat → List (List Int) → Int → Int → List Int → Int → Int → Int → Int → List (List Int) → Option (Bool)
  | 0, _, _, _, _, _, _, _, _, _ => none
  | k + 1, x19, x20, x21, x31, x32, x33, x228000, x228001, x228002 => if x33 < x32 then (if 0 ≤ x33 then (if x33 < (x31.length : Int) then ((impl_within.f (rd x31 x33) 0 (wrap64 (x228001 - 1))).bind fun t232 => (if t232 = true then (impl_AreGears.l1 k x19 x20 x21 x31 x32 (wrap64 (x33 + 1)) x228000 x228001 x228002) else (some false))) else (none)) else (none)) else (impl_AreGears.l0 k x19 x20 (wrap64 (x21 + 1)) x228000 x228001 x228002)
end
def impl_AreGears.f (k : Nat) (a0_0 : Int) (a0_1 : Int) (l0_2 : List (List Int)) : Option (Bool) := (impl_isSmall.f k a0_0 a0_1 1000).bind fun t228 => (if t228 = true then ((impl_within.f (l0_2.length : Int) 1 5).bind fun t229 => (impl_AreGears.j0 k (!t229) a0_0 a0_1 l0_2)) else (impl_AreGears.j0 k true a0_0 a0_1 l0_2))
theorem impl_AreGears.mono_l : ∀ k, (∀ y0 y1 y2 y3, LeO (impl_AreGears.j0 k y0 y1 y2 y3) (impl_AreGears.j0 (k + 1) y0 y1 y2 y3)) ∧ (∀ y0 y1 y2 y3 y4 y5, LeO (impl_AreGears.l0 k y0 y1 y2 y3 y4 y5) (impl_AreGears.l0 (k + 1) y0 y1 y2 y3 y4 y5)) ∧ (∀ y0 y1 y2 y3 y4 y5 y6 y7 y8, LeO (impl_AreGears.l1 k y0 y1 y2 y3 y4 y5 y6 y7 y8) (impl_AreGears.l1 (k + 1) y0 y1 y2 y3 y4 y5 y6 y7 y8))
  | 0 => ⟨fun _ _ _ _ r h => by simp [impl_AreGears.j0] at h, fun _ _ _ _ _ _ r h => by simp [impl_AreGears.l0] at h, fun _ _ _ _ _ _ _ _ _ r h => by simp [impl_AreGears.l1] at h⟩
  | k + 1 => by
    obtain ⟨ih0, ih1, ih2⟩ := impl_AreGears.mono_l k
    refine ⟨?_, ?_, ?_⟩
    · intro y0 y1 y2 y3
      unfold impl_AreGears.j0
      repeat' first
      | (with_reducible exact ih0 _ _ _ _)
      | (with_reducible exact ih1 _ _ _ _ _ _)
      | (with_reducible exact ih2 _ _ _ _ _ _ _ _ _)
      | (with_reducible exact impl_isSmall.mono _ _ _ _)
      | (with_reducible exact LeO.refl _)
      | (with_reducible exact LeO.none _)
      | (with_reducible refine LeO.ite ?_ ?_)
      | (with_reducible refine LeO.bind ?_ (fun _ => ?_))
      | exact ih0 _ _ _ _
      | exact ih1 _ _ _ _ _ _
      | exact ih2 _ _ _ _ _ _ _ _ _
      | exact impl_isSmall.mono _ _ _ _
      | exact LeO.none _
      | refine LeO.ite ?_ ?_
      | refine LeO.bind ?_ (fun _ => ?_)
    · intro y0 y1 y2 y3 y4 y5
      unfold impl_AreGears.l0
      repeat' first
      | (with_reducible exact ih0 _ _ _ _)
      | (with_reducible exact ih1 _ _ _ _ _ _)
      | (with_reducible exact ih2 _ _ _ _ _ _ _ _ _)
      | (with_reducible exact impl_isSmall.mono _ _ _ _)
      | (with_reducible exact LeO.refl _)
      | (with_reducible exact LeO.none _)
      | (with_reducible refine LeO.ite ?_ ?_)
      | (with_reducible refine LeO.bind ?_ (fun _ => ?_))
      | exact ih0 _ _ _ _
      | exact ih1 _ _ _ _ _ _
      | exact ih2 _ _ _ _ _ _ _ _ _
      | exact impl_isSmall.mono _ _ _ _
      | exact LeO.none _
      | refine LeO.ite ?_ ?_
      | refine LeO.bind ?_ (fun _ => ?_)
    · intro y0 y1 y2 y3 y4 y5 y6 y7 y8
      unfold impl_AreGears.l1
      repeat' first
      | (with_reducible exact ih0 _ _ _ _)
      | (with_reducible exact ih1 _ _ _ _ _ _)
      | (with_reducible exact ih2 _ _ _ _ _ _ _ _ _)
      | (with_reducible exact impl_isSmall.mono _ _ _ _)
      | (with_reducible exact LeO.refl _)
      | (with_reducible exact LeO.none _)
      | (with_reducible refine LeO.ite ?_ ?_)
      | (with_reducible refine LeO.bind ?_ (fun _ => ?_))
      | exact ih0 _ _ _ _
      | exact ih1 _ _ _ _ _ _
      | exact ih2 _ _ _ _ _ _ _ _ _
      | exact impl_isSmall.mono _ _ _ _
      | exact LeO.none _
      | refine LeO.ite ?_ ?_
      | refine LeO.bind ?_ (fun _ => ?_)
theorem impl_AreGears.mono : ∀ a0 a1 a2 k, LeO (impl_AreGears.f k a0 a1 a2) (impl_AreGears.f (k + 1) a0 a1 a2) := by
  intro a0 a1 a2 k
  obtain ⟨ih0, ih1, ih2⟩ := impl_AreGears.mono_l k
  unfold impl_AreGears.f
  repeat' first
      | (with_reducible exact ih0 _ _ _ _)
      | (with_reducible exact ih1 _ _ _ _ _ _)
      | (with_reducible exact ih2 _ _ _ _ _ _ _ _ _)
      | (with_reducible exact impl_isSmall.mono _ _ _ _)
      | (with_reducible exact LeO.refl _)
      | (with_reducible exact LeO.none _)
      | (with_reducible refine LeO.ite ?_ ?_)
      | (with_reducible refine LeO.bind ?_ (fun _ => ?_))
      | exact ih0 _ _ _ _
      | exact ih1 _ _ _ _ _ _
      | exact ih2 _ _ _ _ _ _ _ _ _
      | exact impl_isSmall.mono _ _ _ _
      | exact LeO.none _
      | refine LeO.ite ?_ ?_
      | refine LeO.bind ?_ (fun _ => ?_)
set_option maxHeartbeats 8000000 in
set_option maxRecDepth 100000 in
theorem impl_AreGears.calls (k : Nat) (a0_0 : Int) (a0_1 : Int) (A0_2 : Option Addr) (c0_2 : Nat) (l0_2 : List (List Int)) (r : Bool) (w : World) (hr0_2 : Kd.C (Kd.slice 3 (Kd.int .i64)) w A0_2 l0_2.length l0_2) (hc0_2 : l0_2.length ≤ c0_2) (h : impl_AreGears.f k a0_0 a0_1 l0_2 = some r) :
    Calls Try.prog 21 #[.agg #[.int .i64 a0_0, .int .i64 a0_1, .slice A0_2 l0_2.length c0_2]] w fun e w' => e = .returned (.bool r) ∧ Below w.heap.size w w' := by
  have hu33 := Try.underlying33
  have hu31 := Try.underlying31
  have HR0_2 := Aside0.mk hr0_2
  have HC0_2 := Aside0.mk hc0_2
  clear hr0_2 hc0_2
  have HB := Aside0.mk (Below.refl w.heap.size w)
  have H : ((impl_isSmall.f k a0_0 a0_1 1000).bind fun t228 => (if t228 = true then ((impl_within.f (l0_2.length : Int) 1 5).bind fun t229 => (impl_AreGears.j0 k (!t229) a0_0 a0_1 l0_2)) else (impl_AreGears.j0 k true a0_0 a0_1 l0_2))) = some r := h
  clear h
  have HC2 := Aside0.mk H
  clear H
  go_enter Try.func21, Try.ntmps21
  go_upto_region 1 with (first | ((with_reducible refine gate_dst (N := 1) rfl ?_); (try (refine gate_guard (by rfl) ?_; dsimp only)); refine box_event ?hg (N := 1) ?hd (cs := #[.int .i64 a0_0, .int .i64 a0_1, .slice A0_2 l0_2.length c0_2]) (t := 33) ?hr ?_; (case hd => rfl); (case hg => rfl); (case hr => first | (go_simp; done) | (go_simp; rfl)); intro gb227 hg w3 hbox hb; have n0_ := bsx hb HB; have n1_ := Aside0.mk (hbox); have n2_ := gwx hg HB; have n3_ := n2_; clear HB; have HB := n0_; have BK227 := n1_; have GW227 := n2_; have GE227 := n3_; clear n0_ n1_ n2_ n3_; clear hb hbox hg))
  (try simp only [Act.put, s_1, s_2, s_3])
  go_cut [17] (fun v17 wc => ∃ (kq : Nat) (x17_1 : Bool), v17 = .bool x17_1 ∧ Aside0 (impl_AreGears.j0 kq x17_1 a0_0 a0_1 l0_2 = some r) ∧ Aside0 (kq ≤ k) ∧ Aside0 (wc.heap[gb227]? = some (.cells #[.int .i64 a0_0, .int .i64 a0_1, (.slice A0_2 l0_2.length c0_2)] 33 (0, 0))) ∧ Aside0 (Below w.heap.size w wc))
  case first =>
    have H := HC2.out
    clear HC2
    replace H := Option.bind_eq_some_iff.mp H
    obtain ⟨t228, A40, H⟩ := H
    try dsimp only at H
    have A4 := Aside0.mk A40
    clear A40
    by_cases c5 : t228 = true
    rotate_left
    · replace c5 := Bool.eq_false_iff.mpr c5
      subst c5
      rw [if_neg (show ¬ (false = true) by decide)] at H
      have H' := Aside0.mk H
      clear H
      have hcz10_0 : w3.cell? ⟨gb227, 0, none⟩ = some (.int .i64 a0_0) := (blk_cell BK227.out 0).trans rfl
      have hcz10_1 : w3.cell? ⟨gb227, 1, none⟩ = some (.int .i64 a0_1) := (blk_cell BK227.out 1).trans rfl
      have hcz10_2 : w3.cell? ⟨gb227, 2, none⟩ = some (.slice A0_2 l0_2.length c0_2) := (blk_cell BK227.out 2).trans rfl
      have hfz10_0 := blk_frozen BK227.out 0
      have hfz10_1 := blk_frozen BK227.out 1
      have hfz10_2 := blk_frozen BK227.out 2
      go_wp2_with (first | ((with_reducible refine gate_callee (f := 51) rfl ?_); refine goesL_ (some 9) rfl rfl Try.func51 (by kernel_rfl) rfl #[.agg #[.int .i64 a0_0, .int .i64 a0_1], .int .i64 1000] rfl (by (try simp only [m_1, m_2, m_3]); first | done | rfl | (simp only [m_4, m_5]; rfl)) ?_; (with_reducible refine (impl_isSmall.calls k a0_0 a0_1 1000 false _ A4.out).mono ?_); rintro e w11 ⟨rfl, hb⟩; refine ⟨_, rfl, ?_⟩; replace BK227 := bbx hb BK227; replace HB := bsx hb HB; skip; (try clear hb); (try clear hb2); (try clear hk); (try clear hi)))
      go_meet
      case rel => exact ⟨_, (true), (by first | rfl | (simp; done) | (simp [*]; done)), H', ⟨by first | omega | exact Nat.le_refl _⟩, ⟨bK BK227⟩, ⟨bB HB⟩⟩
    subst c5
    rw [if_pos rfl] at H
    replace H := Option.bind_eq_some_iff.mp H
    obtain ⟨t229, A60, H⟩ := H
    try dsimp only at H
    have A6 := Aside0.mk A60
    clear A60
    have H' := Aside0.mk H
    clear H
    have hcz7_0 : w3.cell? ⟨gb227, 0, none⟩ = some (.int .i64 a0_0) := (blk_cell BK227.out 0).trans rfl
    have hcz7_1 : w3.cell? ⟨gb227, 1, none⟩ = some (.int .i64 a0_1) := (blk_cell BK227.out 1).trans rfl
    have hcz7_2 : w3.cell? ⟨gb227, 2, none⟩ = some (.slice A0_2 l0_2.length c0_2) := (blk_cell BK227.out 2).trans rfl
    have hfz7_0 := blk_frozen BK227.out 0
    have hfz7_1 := blk_frozen BK227.out 1
    have hfz7_2 := blk_frozen BK227.out 2
    go_wp2_with (first | ((with_reducible refine gate_callee (f := 51) rfl ?_); refine goesL_ (some 9) rfl rfl Try.func51 (by kernel_rfl) rfl #[.agg #[.int .i64 a0_0, .int .i64 a0_1], .int .i64 1000] rfl (by (try simp only [m_1, m_2, m_3]); first | done | rfl | (simp only [m_4, m_5]; rfl)) ?_; (with_reducible refine (impl_isSmall.calls k a0_0 a0_1 1000 true _ A4.out).mono ?_); rintro e w8 ⟨rfl, hb⟩; refine ⟨_, rfl, ?_⟩; replace BK227 := bbx hb BK227; replace HB := bsx hb HB; skip; (try clear hb); (try clear hb2); (try clear hk); (try clear hi); have hcz9_0 : w8.cell? ⟨gb227, 0, none⟩ = some (.int .i64 a0_0) := (blk_cell BK227.out 0).trans rfl; have hcz9_1 : w8.cell? ⟨gb227, 1, none⟩ = some (.int .i64 a0_1) := (blk_cell BK227.out 1).trans rfl; have hcz9_2 : w8.cell? ⟨gb227, 2, none⟩ = some (.slice A0_2 l0_2.length c0_2) := (blk_cell BK227.out 2).trans rfl; have hfz9_0 := blk_frozen BK227.out 0; have hfz9_1 := blk_frozen BK227.out 1; have hfz9_2 := blk_frozen BK227.out 2) | (go_at_call 52; (with_reducible refine (impl_within.calls (l0_2.length : Int) 1 5 t229 _ A6.out).mono ?_); rintro e w' ⟨rfl, ⟨nd, rfl⟩⟩))
    go_meet
    case rel => exact ⟨_, (!t229), (by first | rfl | (simp; done) | (simp [*]; done)), H', ⟨by first | omega | exact Nat.le_refl _⟩, ⟨bK BK227⟩, ⟨bB HB⟩⟩
  clear HC2
  obtain ⟨kq, x17_1, rfl, HA, HJ1, BK227, HB⟩ := hcut
  rcases kq with _ | kj1
  · exact absurd HA.out (by simp [impl_AreGears.j0])
  have H := HA.out
  clear HA
  simp only [impl_AreGears.j0] at H
  by_cases c12 : x17_1 = true
  · subst c12
    rw [if_pos rfl] at H
    obtain rfl := Option.some.inj H
    go_wp2
    go_ret
    exact ⟨by first | rfl | (simp [errW_none, errW_some] <;> rfl) | (simp [*, errW_none, errW_some] <;> rfl), bB HB⟩
  replace c12 := Bool.eq_false_iff.mpr c12
  subst c12
  rw [if_neg (show ¬ (false = true) by decide)] at H
  have H' := Aside0.mk H
  clear H
  have hcz13_0 : wc.cell? ⟨gb227, 0, none⟩ = some (.int .i64 a0_0) := (blk_cell BK227.out 0).trans rfl
  have hcz13_1 : wc.cell? ⟨gb227, 1, none⟩ = some (.int .i64 a0_1) := (blk_cell BK227.out 1).trans rfl
  have hcz13_2 : wc.cell? ⟨gb227, 2, none⟩ = some (.slice A0_2 l0_2.length c0_2) := (blk_cell BK227.out 2).trans rfl
  have hfz13_0 := blk_frozen BK227.out 0
  have hfz13_1 := blk_frozen BK227.out 1
  have hfz13_2 := blk_frozen BK227.out 2
  go_wp2
  go_loopg [21] kj1 (fun kq v21 w' => ∃ (x21_2 : Int), v21 = .int .i64 x21_2 ∧ Aside0 (impl_AreGears.l0 kq l0_2 (l0_2.length : Int) x21_2 a0_0 a0_1 l0_2 = some r) ∧ Aside0 (kq ≤ kj1) ∧ Aside0 (w'.heap[gb227]? = some (.cells #[.int .i64 a0_0, .int .i64 a0_1, (.slice A0_2 l0_2.length c0_2)] 33 (0, 0))) ∧ Aside0 (Below w.heap.size w w'))
  case atStart => exact ⟨(0), (by first | rfl | (simp; done) | (simp [*]; done)), H', ⟨Nat.le_refl _⟩, ⟨bK BK227⟩, ⟨bB HB⟩⟩
  clear H'
  try clear c12
  try clear hcz13_0
  try clear hcz13_1
  try clear hcz13_2
  try clear hfz13_0
  try clear hfz13_1
  try clear hfz13_2
  obtain ⟨x21_2, rfl, HA, HK2, BK227, HB⟩ := hrel
  rcases gk with _ | k2
  · exact absurd HA.out (by simp [impl_AreGears.l0])
  have H := HA.out
  clear HA
  simp only [impl_AreGears.l0] at H
  by_cases c14 : x21_2 < (l0_2.length : Int)
  rotate_left
  · rw [if_neg c14] at H
    have c14b0 : decide (x21_2 < (l0_2.length : Int)) = false := decide_eq_false c14
    clear c14
    obtain rfl := Option.some.inj H
    go_wp2
    go_ret
    exact ⟨by first | rfl | (simp [errW_none, errW_some] <;> rfl) | (simp [*, errW_none, errW_some] <;> rfl), bB HB⟩

  rw [if_pos c14] at H
  have c14b0 : decide (x21_2 < (l0_2.length : Int)) = true := decide_eq_true c14
  clear c14
  by_cases c15 : 0 ≤ x21_2
  rotate_left
  · rw [if_neg c15] at H
    exact absurd H (by simp)
  rw [if_pos c15] at H
  have c15b0 : decide (0 ≤ x21_2) = true := decide_eq_true c15
  clear c15
  by_cases c16 : x21_2 < (l0_2.length : Int)
  rotate_left
  · rw [if_neg c16] at H
    exact absurd H (by simp)
  rw [if_pos c16] at H
  have c16b0 : decide (x21_2 < (l0_2.length : Int)) = true := decide_eq_true c16
  clear c16
  by_cases c17 : ((rd_L1 l0_2 x21_2).length : Int) = a0_0
  rotate_left
  · rw [if_neg c17] at H
    have c17b0 : (((rd_L1 l0_2 x21_2).length : Int) == a0_0) = false := beq_eq_false_iff_ne.mpr c17
    have c17b1 : (((rd_L1 l0_2 x21_2).length : Int) != a0_0) = true := bne_iff_ne.mpr c17
    obtain rfl := Option.some.inj H
    have p230 : 0 ≤ (x21_2 : Int) := of_decide_eq_true (by first | (with_reducible assumption) | assumption)
    have q230 : x21_2 < (l0_2.length : Int) := of_decide_eq_true (by first | (with_reducible assumption) | assumption)
    obtain ⟨ad230, A230_0, c230_0, e230, hx230_0, hl230_0, hi230_0⟩ := at_L1 HR0_2.out x21_2 p230 q230
    cases e230
    replace hx230_0 := (HB.out.cell (World.block_lt_of_cell? w _ hx230_0)).trans hx230_0
    have HR230_0 := Aside0.mk hi230_0
    have HC230_0 := Aside0.mk hl230_0
    clear hi230_0 hl230_0
    replace p230 := eq_true p230
    replace q230 := eq_true q230
    have hcz26_0 : wr.cell? ⟨gb227, 0, none⟩ = some (.int .i64 a0_0) := (blk_cell BK227.out 0).trans rfl
    have hcz26_1 : wr.cell? ⟨gb227, 1, none⟩ = some (.int .i64 a0_1) := (blk_cell BK227.out 1).trans rfl
    have hcz26_2 : wr.cell? ⟨gb227, 2, none⟩ = some (.slice (some ad230) l0_2.length c0_2) := (blk_cell BK227.out 2).trans rfl
    have hfz26_0 := blk_frozen BK227.out 0
    have hfz26_1 := blk_frozen BK227.out 1
    have hfz26_2 := blk_frozen BK227.out 2
    go_wp2
    go_ret
    exact ⟨by first | rfl | (simp [errW_none, errW_some] <;> rfl) | (simp [*, errW_none, errW_some] <;> rfl), bB HB⟩
  rw [if_pos c17] at H
  have c17b0 : (((rd_L1 l0_2 x21_2).length : Int) == a0_0) = true := beq_iff_eq.mpr c17
  have c17b1 : (((rd_L1 l0_2 x21_2).length : Int) != a0_0) = false := bne_eq_false_iff_eq.mpr c17
  clear c17
  have H' := Aside0.mk H
  clear H
  have p230 : 0 ≤ (x21_2 : Int) := of_decide_eq_true (by first | (with_reducible assumption) | assumption)
  have q230 : x21_2 < (l0_2.length : Int) := of_decide_eq_true (by first | (with_reducible assumption) | assumption)
  obtain ⟨ad230, A230_0, c230_0, e230, hx230_0, hl230_0, hi230_0⟩ := at_L1 HR0_2.out x21_2 p230 q230
  cases e230
  replace hx230_0 := (HB.out.cell (World.block_lt_of_cell? w _ hx230_0)).trans hx230_0
  have HR230_0 := Aside0.mk hi230_0
  have HC230_0 := Aside0.mk hl230_0
  clear hi230_0 hl230_0
  replace p230 := eq_true p230
  replace q230 := eq_true q230
  have hcz18_0 : wr.cell? ⟨gb227, 0, none⟩ = some (.int .i64 a0_0) := (blk_cell BK227.out 0).trans rfl
  have hcz18_1 : wr.cell? ⟨gb227, 1, none⟩ = some (.int .i64 a0_1) := (blk_cell BK227.out 1).trans rfl
  have hcz18_2 : wr.cell? ⟨gb227, 2, none⟩ = some (.slice (some ad230) l0_2.length c0_2) := (blk_cell BK227.out 2).trans rfl
  have hfz18_0 := blk_frozen BK227.out 0
  have hfz18_1 := blk_frozen BK227.out 1
  have hfz18_2 := blk_frozen BK227.out 2
  go_wp2
  go_loopg [33] k2 (fun kq v33 w' => ∃ (x33_3 : Int), v33 = .int .i64 x33_3 ∧ Aside0 (impl_AreGears.l1 kq l0_2 (l0_2.length : Int) x21_2 (rd_L1 l0_2 x21_2) ((rd_L1 l0_2 x21_2).length : Int) x33_3 a0_0 a0_1 l0_2 = some r) ∧ Aside0 (kq ≤ k2) ∧ Aside0 (w'.heap[gb227]? = some (.cells #[.int .i64 a0_0, .int .i64 a0_1, (.slice (some ad230) l0_2.length c0_2)] 33 (0, 0))) ∧ Aside0 (Below w.heap.size w w'))
  case atStart => exact ⟨(0), (by first | rfl | (simp; done) | (simp [*]; done)), H', ⟨Nat.le_refl _⟩, ⟨bK BK227⟩, ⟨bB HB⟩⟩
  clear H'
  try clear c14
  try clear c14b0
  try clear c15
  try clear c15b0
  try clear c16
  try clear c16b0
  try clear c17
  try clear c17b0
  try clear c17b1
  try clear hcz18_0
  try clear hcz18_1
  try clear hcz18_2
  try clear hfz18_0
  try clear hfz18_1
  try clear hfz18_2
  try clear hx230_0
  try clear p230
  try clear q230
  obtain ⟨x33_3, rfl, HA, HK3, BK227, HB⟩ := hrel
  rcases gk with _ | k3
  · exact absurd HA.out (by simp [impl_AreGears.l1])
  have H := HA.out
  clear HA
  simp only [impl_AreGears.l1] at H
  by_cases c19 : x33_3 < ((rd_L1 l0_2 x21_2).length : Int)
  rotate_left
  · rw [if_neg c19] at H
    have c19b0 : decide (x33_3 < ((rd_L1 l0_2 x21_2).length : Int)) = false := decide_eq_false c19
    clear c19
    have H' := Aside0.mk H
    clear H
    go_wp2
    go_roundg k3
    case measure => have := HJ1.out; have := HK2.out; have := HK3.out; omega
    case rel => exact ⟨(wrap64 (x21_2 + 1)), (by first | rfl | (simp; done) | (simp [*]; done)), H', ⟨by have := HJ1.out; have := HK2.out; have := HK3.out; omega⟩, ⟨bK BK227⟩, ⟨bB HB⟩⟩
  rw [if_pos c19] at H
  have c19b0 : decide (x33_3 < ((rd_L1 l0_2 x21_2).length : Int)) = true := decide_eq_true c19
  clear c19
  by_cases c20 : 0 ≤ x33_3
  rotate_left
  · rw [if_neg c20] at H
    exact absurd H (by simp)
  rw [if_pos c20] at H
  have c20b0 : decide (0 ≤ x33_3) = true := decide_eq_true c20
  clear c20
  by_cases c21 : x33_3 < ((rd_L1 l0_2 x21_2).length : Int)
  rotate_left
  · rw [if_neg c21] at H
    exact absurd H (by simp)
  rw [if_pos c21] at H
  have c21b0 : decide (x33_3 < ((rd_L1 l0_2 x21_2).length : Int)) = true := decide_eq_true c21
  clear c21
  replace H := Option.bind_eq_some_iff.mp H
  obtain ⟨t232, A220, H⟩ := H
  try dsimp only at H
  have A22 := Aside0.mk A220
  clear A220
  by_cases c23 : t232 = true
  rotate_left
  · replace c23 := Bool.eq_false_iff.mpr c23
    subst c23
    rw [if_neg (show ¬ (false = true) by decide)] at H
    obtain rfl := Option.some.inj H
    have p231 : 0 ≤ (x33_3 : Int) := of_decide_eq_true (by first | (with_reducible assumption) | assumption)
    have q231 : x33_3 < ((rd_L1 l0_2 x21_2).length : Int) := of_decide_eq_true (by first | (with_reducible assumption) | assumption)
    obtain ⟨ad231, e231, hx231_0⟩ := Kd.at_int HR230_0.out x33_3 p231 q231
    cases e231
    replace hx231_0 := (HB.out.cell (World.block_lt_of_cell? w _ hx231_0)).trans hx231_0
    replace p231 := eq_true p231
    replace q231 := eq_true q231
    have hcz25_0 : wr.cell? ⟨gb227, 0, none⟩ = some (.int .i64 a0_0) := (blk_cell BK227.out 0).trans rfl
    have hcz25_1 : wr.cell? ⟨gb227, 1, none⟩ = some (.int .i64 a0_1) := (blk_cell BK227.out 1).trans rfl
    have hcz25_2 : wr.cell? ⟨gb227, 2, none⟩ = some (.slice (some ad230) l0_2.length c0_2) := (blk_cell BK227.out 2).trans rfl
    have hfz25_0 := blk_frozen BK227.out 0
    have hfz25_1 := blk_frozen BK227.out 1
    have hfz25_2 := blk_frozen BK227.out 2
    go_wp2_with (first | ((with_reducible refine gate_callee (f := 52) rfl ?_); refine goesL_ (some 42) rfl rfl Try.func52 (by kernel_rfl) rfl #[.int .i64 (rd (rd_L1 l0_2 x21_2) x33_3), .int .i64 0, .int .i64 (wrap64 (a0_1 - 1))] rfl (by (try simp only [m_1, m_2, m_3]); first | done | rfl | (simp only [m_4, m_5]; rfl)) ?_; (with_reducible refine (impl_within.calls (rd (rd_L1 l0_2 x21_2) x33_3) 0 (wrap64 (a0_1 - 1)) false _ A22.out).mono ?_); rintro e w' ⟨rfl, ⟨nd, rfl⟩⟩; refine ⟨_, rfl, ?_⟩))
    go_ret
    exact ⟨by first | rfl | (simp [errW_none, errW_some] <;> rfl) | (simp [*, errW_none, errW_some] <;> rfl), bB HB⟩
  subst c23
  rw [if_pos rfl] at H
  have H' := Aside0.mk H
  clear H
  have p231 : 0 ≤ (x33_3 : Int) := of_decide_eq_true (by first | (with_reducible assumption) | assumption)
  have q231 : x33_3 < ((rd_L1 l0_2 x21_2).length : Int) := of_decide_eq_true (by first | (with_reducible assumption) | assumption)
  obtain ⟨ad231, e231, hx231_0⟩ := Kd.at_int HR230_0.out x33_3 p231 q231
  cases e231
  replace hx231_0 := (HB.out.cell (World.block_lt_of_cell? w _ hx231_0)).trans hx231_0
  replace p231 := eq_true p231
  replace q231 := eq_true q231
  have hcz24_0 : wr.cell? ⟨gb227, 0, none⟩ = some (.int .i64 a0_0) := (blk_cell BK227.out 0).trans rfl
  have hcz24_1 : wr.cell? ⟨gb227, 1, none⟩ = some (.int .i64 a0_1) := (blk_cell BK227.out 1).trans rfl
  have hcz24_2 : wr.cell? ⟨gb227, 2, none⟩ = some (.slice (some ad230) l0_2.length c0_2) := (blk_cell BK227.out 2).trans rfl
  have hfz24_0 := blk_frozen BK227.out 0
  have hfz24_1 := blk_frozen BK227.out 1
  have hfz24_2 := blk_frozen BK227.out 2
  go_wp2_with (first | ((with_reducible refine gate_callee (f := 52) rfl ?_); refine goesL_ (some 42) rfl rfl Try.func52 (by kernel_rfl) rfl #[.int .i64 (rd (rd_L1 l0_2 x21_2) x33_3), .int .i64 0, .int .i64 (wrap64 (a0_1 - 1))] rfl (by (try simp only [m_1, m_2, m_3]); first | done | rfl | (simp only [m_4, m_5]; rfl)) ?_; (with_reducible refine (impl_within.calls (rd (rd_L1 l0_2 x21_2) x33_3) 0 (wrap64 (a0_1 - 1)) true _ A22.out).mono ?_); rintro e w' ⟨rfl, ⟨nd, rfl⟩⟩; refine ⟨_, rfl, ?_⟩))
  go_roundg k3
  case measure => have := HJ1.out; have := HK2.out; have := HK3.out; omega
  case rel => exact ⟨(wrap64 (x33_3 + 1)), (by first | rfl | (simp; done) | (simp [*]; done)), H', ⟨by have := HJ1.out; have := HK2.out; have := HK3.out; omega⟩, ⟨bK BK227⟩, ⟨bB HB⟩⟩
/-! ### impl_Lock_isText: function 100 -/
def impl_Lock_isText.l0 : Nat → ByteArray → Int → Int → Int → Int → Option (Bool)
  | 0, _, _, _, _, _ => none
  | k + 1, x1, x7, x8, x234000, x234001 => if x8 < x7 then (if 0 ≤ x8 then (if x8 < (x1.size : Int) then ((impl_within.f (wrap64 (bt x1 x8)) 48 (wrap64 ((wrap64 (48 + x234001)) - 1))).bind fun t234 => (if t234 = true then (impl_Lock_isText.l0 k x1 x7 (wrap64 (x8 + 1)) x234000 x234001) else (some false))) else (none)) else (none)) else (some true)
def impl_Lock_isText.f (k : Nat) (a0_0 : Int) (a0_1 : Int) (a1 : ByteArray) : Option (Bool) := impl_Lock_isText.l0 k a1 (a1.size : Int) 0 a0_0 a0_1
theorem impl_Lock_isText.mono_l : ∀ k, (∀ y0 y1 y2 y3 y4, LeO (impl_Lock_isText.l0 k y0 y1 y2 y3 y4) (impl_Lock_isText.l0 (k + 1) y0 y1 y2 y3 y4))
  | 0 => fun _ _ _ _ _ r h => by simp [impl_Lock_isText.l0] at h
  | k + 1 => by
    have ih0 := impl_Lock_isText.mono_l k
    · intro y0 y1 y2 y3 y4
      unfold impl_Lock_isText.l0
      repeat' first
      | (with_reducible exact ih0 _ _ _ _ _)
      | (with_reducible exact LeO.refl _)
      | (with_reducible exact LeO.none _)
      | (with_reducible refine LeO.ite ?_ ?_)
      | (with_reducible refine LeO.bind ?_ (fun _ => ?_))
      | exact ih0 _ _ _ _ _
      | exact LeO.none _
      | refine LeO.ite ?_ ?_
      | refine LeO.bind ?_ (fun _ => ?_)
theorem impl_Lock_isText.mono : ∀ a0 a1 a2 k, LeO (impl_Lock_isText.f k a0 a1 a2) (impl_Lock_isText.f (k + 1) a0 a1 a2) := by
  intro a0 a1 a2 k
  have ih0 := impl_Lock_isText.mono_l k
  unfold impl_Lock_isText.f
  repeat' first
      | (with_reducible exact ih0 _ _ _ _ _)
      | (with_reducible exact LeO.refl _)
      | (with_reducible exact LeO.none _)
      | (with_reducible refine LeO.ite ?_ ?_)
      | (with_reducible refine LeO.bind ?_ (fun _ => ?_))
      | exact ih0 _ _ _ _ _
      | exact LeO.none _
      | refine LeO.ite ?_ ?_
      | refine LeO.bind ?_ (fun _ => ?_)
set_option maxHeartbeats 8000000 in
set_option maxRecDepth 100000 in
theorem impl_Lock_isText.calls (k : Nat) (a0_0 : Int) (a0_1 : Int) (a1 : ByteArray) (r : Bool) (w : World) (h : impl_Lock_isText.f k a0_0 a0_1 a1 = some r) :
    Calls Try.prog 100 #[.agg #[.int .i64 a0_0, .int .i64 a0_1], .string a1] w fun e w' => e = .returned (.bool r) ∧ Below w.heap.size w w' := by
  have hu31 := Try.underlying31
  have HB := Aside0.mk (Below.refl w.heap.size w)
  have H : (impl_Lock_isText.l0 k a1 (a1.size : Int) 0 a0_0 a0_1) = some r := h
  clear h
  have H' := Aside0.mk H
  clear H
  go_enter Try.func100, Try.ntmps100
  go_wp2_with (first | ((with_reducible refine gate_dst (N := 2) rfl ?_); refine box_event ?hg (N := 2) ?hd (cs := #[.int .i64 a0_0, .int .i64 a0_1]) (t := 31) ?hr ?_; (case hd => rfl); (case hg => rfl); (case hr => first | (go_simp; done) | (go_simp; rfl)); intro gb233 hg w3 hbox hb; have n0_ := bsx hb HB; have n1_ := Aside0.mk (hbox); have n2_ := gwx hg HB; have n3_ := n2_; clear HB; have HB := n0_; have BK233 := n1_; have GW233 := n2_; have GE233 := n3_; clear n0_ n1_ n2_ n3_; clear hb hbox hg))
  repeat (go_quiet (first | ((with_reducible refine gate_dst (N := 2) rfl ?_); refine box_event ?hg (N := 2) ?hd (cs := #[.int .i64 a0_0, .int .i64 a0_1]) (t := 31) ?hr ?_; (case hd => rfl); (case hg => rfl); (case hr => first | (go_simp; done) | (go_simp; rfl)); intro gb233 hg w3 hbox hb; have n0_ := bsx hb HB; have n1_ := Aside0.mk (hbox); have n2_ := gwx hg HB; have n3_ := n2_; clear HB; have HB := n0_; have BK233 := n1_; have GW233 := n2_; have GE233 := n3_; clear n0_ n1_ n2_ n3_; clear hb hbox hg)); try go_wp2_with (first | ((with_reducible refine gate_dst (N := 2) rfl ?_); refine box_event ?hg (N := 2) ?hd (cs := #[.int .i64 a0_0, .int .i64 a0_1]) (t := 31) ?hr ?_; (case hd => rfl); (case hg => rfl); (case hr => first | (go_simp; done) | (go_simp; rfl)); intro gb233 hg w3 hbox hb; have n0_ := bsx hb HB; have n1_ := Aside0.mk (hbox); have n2_ := gwx hg HB; have n3_ := n2_; clear HB; have HB := n0_; have BK233 := n1_; have GW233 := n2_; have GE233 := n3_; clear n0_ n1_ n2_ n3_; clear hb hbox hg)))
  go_loopg [8] k (fun kq v8 w' => ∃ (x8_1 : Int), v8 = .int .i64 x8_1 ∧ Aside0 (impl_Lock_isText.l0 kq a1 (a1.size : Int) x8_1 a0_0 a0_1 = some r) ∧ Aside0 (kq ≤ k) ∧ Aside0 (w'.heap[gb233]? = some (.cells #[.int .i64 a0_0, .int .i64 a0_1] 31 (0, 0))) ∧ Aside0 (Below w.heap.size w w'))
  case atStart => exact ⟨(0), (by first | rfl | (simp; done) | (simp [*]; done)), H', ⟨Nat.le_refl _⟩, ⟨bK BK233⟩, ⟨bB HB⟩⟩
  clear H'
  obtain ⟨x8_1, rfl, HA, HK1, BK233, HB⟩ := hrel
  rcases gk with _ | k1
  · exact absurd HA.out (by simp [impl_Lock_isText.l0])
  have H := HA.out
  clear HA
  simp only [impl_Lock_isText.l0] at H
  by_cases c4 : x8_1 < (a1.size : Int)
  rotate_left
  · rw [if_neg c4] at H
    have c4b0 : decide (x8_1 < (a1.size : Int)) = false := decide_eq_false c4
    clear c4
    obtain rfl := Option.some.inj H
    go_wp2
    repeat (go_quiet (fail); try go_wp2)
    go_ret
    exact ⟨by first | rfl | (simp [errW_none, errW_some] <;> rfl) | (simp [*, errW_none, errW_some] <;> rfl), bB HB⟩

  rw [if_pos c4] at H
  have c4b0 : decide (x8_1 < (a1.size : Int)) = true := decide_eq_true c4
  clear c4
  by_cases c5 : 0 ≤ x8_1
  rotate_left
  · rw [if_neg c5] at H
    exact absurd H (by simp)
  rw [if_pos c5] at H
  have c5b0 : decide (0 ≤ x8_1) = true := decide_eq_true c5
  clear c5
  by_cases c6 : x8_1 < (a1.size : Int)
  rotate_left
  · rw [if_neg c6] at H
    exact absurd H (by simp)
  rw [if_pos c6] at H
  have c6b0 : decide (x8_1 < (a1.size : Int)) = true := decide_eq_true c6
  clear c6
  replace H := Option.bind_eq_some_iff.mp H
  obtain ⟨t234, A80, H⟩ := H
  try dsimp only at H
  have A8 := Aside0.mk A80
  clear A80
  by_cases c9 : t234 = true
  rotate_left
  · replace c9 := Bool.eq_false_iff.mpr c9
    subst c9
    rw [if_neg (show ¬ (false = true) by decide)] at H
    obtain rfl := Option.some.inj H
    have p7 : 0 ≤ (x8_1 : Int) := of_decide_eq_true (by first | (with_reducible assumption) | assumption)
    have q7 : x8_1 < (a1.size : Int) := of_decide_eq_true (by first | (with_reducible assumption) | assumption)
    have hx7 := bt_at a1 x8_1
    replace p7 := eq_true p7
    replace q7 := eq_true q7
    have hcz11_0 := cz0 BK233
    have hcz11_1 := cz1 BK233
    have hfz11_0 := blk_frozen BK233.out 0
    have hfz11_1 := blk_frozen BK233.out 1
    go_wp2_with (first | (go_at_call 52; (with_reducible refine (impl_within.calls (wrap64 (bt a1 x8_1)) 48 (wrap64 ((wrap64 (48 + a0_1)) - 1)) false _ A8.out).mono ?_); rintro e w' ⟨rfl, ⟨nd, rfl⟩⟩; (try first | exact ⟨rfl, _, World.drewN_drewN _ _ _⟩ | exact ⟨rfl, _, Eq.trans (World.drewN_drewN _ _ _) (congrArg (World.drewN _) (Nat.add_assoc _ _ _))⟩)))
    repeat (go_quiet (first | (go_at_call 52; (with_reducible refine (impl_within.calls (wrap64 (bt a1 x8_1)) 48 (wrap64 ((wrap64 (48 + a0_1)) - 1)) false _ A8.out).mono ?_); rintro e w' ⟨rfl, ⟨nd, rfl⟩⟩; (try first | exact ⟨rfl, _, World.drewN_drewN _ _ _⟩ | exact ⟨rfl, _, Eq.trans (World.drewN_drewN _ _ _) (congrArg (World.drewN _) (Nat.add_assoc _ _ _))⟩))); try go_wp2_with (first | (go_at_call 52; (with_reducible refine (impl_within.calls (wrap64 (bt a1 x8_1)) 48 (wrap64 ((wrap64 (48 + a0_1)) - 1)) false _ A8.out).mono ?_); rintro e w' ⟨rfl, ⟨nd, rfl⟩⟩; (try first | exact ⟨rfl, _, World.drewN_drewN _ _ _⟩ | exact ⟨rfl, _, Eq.trans (World.drewN_drewN _ _ _) (congrArg (World.drewN _) (Nat.add_assoc _ _ _))⟩))))
    go_ret
    exact ⟨by first | rfl | (simp [errW_none, errW_some] <;> rfl) | (simp [*, errW_none, errW_some] <;> rfl), bB HB⟩
  subst c9
  rw [if_pos rfl] at H
  have H' := Aside0.mk H
  clear H
  have p7 : 0 ≤ (x8_1 : Int) := of_decide_eq_true (by first | (with_reducible assumption) | assumption)
  have q7 : x8_1 < (a1.size : Int) := of_decide_eq_true (by first | (with_reducible assumption) | assumption)
  have hx7 := bt_at a1 x8_1
  replace p7 := eq_true p7
  replace q7 := eq_true q7
  have hcz10_0 := cz0 BK233
  have hcz10_1 := cz1 BK233
  have hfz10_0 := blk_frozen BK233.out 0
  have hfz10_1 := blk_frozen BK233.out 1
  go_wp2_with (first | (go_at_call 52; (with_reducible refine (impl_within.calls (wrap64 (bt a1 x8_1)) 48 (wrap64 ((wrap64 (48 + a0_1)) - 1)) true _ A8.out).mono ?_); rintro e w' ⟨rfl, ⟨nd, rfl⟩⟩; (try first | exact ⟨rfl, _, World.drewN_drewN _ _ _⟩ | exact ⟨rfl, _, Eq.trans (World.drewN_drewN _ _ _) (congrArg (World.drewN _) (Nat.add_assoc _ _ _))⟩)))
  repeat (go_quiet (first | (go_at_call 52; (with_reducible refine (impl_within.calls (wrap64 (bt a1 x8_1)) 48 (wrap64 ((wrap64 (48 + a0_1)) - 1)) true _ A8.out).mono ?_); rintro e w' ⟨rfl, ⟨nd, rfl⟩⟩; (try first | exact ⟨rfl, _, World.drewN_drewN _ _ _⟩ | exact ⟨rfl, _, Eq.trans (World.drewN_drewN _ _ _) (congrArg (World.drewN _) (Nat.add_assoc _ _ _))⟩))); try go_wp2_with (first | (go_at_call 52; (with_reducible refine (impl_within.calls (wrap64 (bt a1 x8_1)) 48 (wrap64 ((wrap64 (48 + a0_1)) - 1)) true _ A8.out).mono ?_); rintro e w' ⟨rfl, ⟨nd, rfl⟩⟩; (try first | exact ⟨rfl, _, World.drewN_drewN _ _ _⟩ | exact ⟨rfl, _, Eq.trans (World.drewN_drewN _ _ _) (congrArg (World.drewN _) (Nat.add_assoc _ _ _))⟩))))
  go_roundg k1
  case measure => have := HK1.out; omega
  case rel => exact ⟨(wrap64 (x8_1 + 1)), (by first | rfl | (simp; done) | (simp [*]; done)), H', ⟨by have := HK1.out; omega⟩, ⟨bK BK233⟩, ⟨bB HB⟩⟩
/-! ### impl_Lock_isCode: function 97 -/
def impl_Lock_isCode.f (k : Nat) (a0_0 : Int) (a0_1 : Int) (a1 : ByteArray) : Option (Bool) := if (a1.size : Int) = a0_0 then ((impl_Lock_isText.f k a0_0 a0_1 a1).bind fun t236 => (some t236)) else (some false)
theorem impl_Lock_isCode.mono : ∀ a0 a1 a2 k, LeO (impl_Lock_isCode.f k a0 a1 a2) (impl_Lock_isCode.f (k + 1) a0 a1 a2) := by
  intro a0 a1 a2 k
  unfold impl_Lock_isCode.f
  repeat' first
      | (with_reducible exact impl_Lock_isText.mono _ _ _ _)
      | (with_reducible exact LeO.refl _)
      | (with_reducible exact LeO.none _)
      | (with_reducible refine LeO.ite ?_ ?_)
      | (with_reducible refine LeO.bind ?_ (fun _ => ?_))
      | exact impl_Lock_isText.mono _ _ _ _
      | exact LeO.none _
      | refine LeO.ite ?_ ?_
      | refine LeO.bind ?_ (fun _ => ?_)
set_option maxHeartbeats 8000000 in
set_option maxRecDepth 100000 in
theorem impl_Lock_isCode.calls (k : Nat) (a0_0 : Int) (a0_1 : Int) (a1 : ByteArray) (r : Bool) (w : World) (h : impl_Lock_isCode.f k a0_0 a0_1 a1 = some r) :
    Calls Try.prog 97 #[.agg #[.int .i64 a0_0, .int .i64 a0_1], .string a1] w fun e w' => e = .returned (.bool r) ∧ Below w.heap.size w w' := by
  have hu31 := Try.underlying31
  have HB := Aside0.mk (Below.refl w.heap.size w)
  have H : (if (a1.size : Int) = a0_0 then ((impl_Lock_isText.f k a0_0 a0_1 a1).bind fun t236 => (some t236)) else (some false)) = some r := h
  clear h
  by_cases c3 : (a1.size : Int) = a0_0
  rotate_left
  · rw [if_neg c3] at H
    have c3b0 : ((a1.size : Int) == a0_0) = false := beq_eq_false_iff_ne.mpr c3
    have c3b1 : ((a1.size : Int) != a0_0) = true := bne_iff_ne.mpr c3
    obtain rfl := Option.some.inj H
    go_enter Try.func97, Try.ntmps97
    go_wp2_with (first | ((with_reducible refine gate_dst (N := 2) rfl ?_); refine box_event ?hg (N := 2) ?hd (cs := #[.int .i64 a0_0, .int .i64 a0_1]) (t := 31) ?hr ?_; (case hd => rfl); (case hg => rfl); (case hr => first | (go_simp; done) | (go_simp; rfl)); intro gb235 hg w8 hbox hb; have n0_ := bsx hb HB; have n1_ := Aside0.mk (hbox); have n2_ := gwx hg HB; have n3_ := n2_; clear HB; have HB := n0_; have BK235 := n1_; have GW235 := n2_; have GE235 := n3_; clear n0_ n1_ n2_ n3_; clear hb hbox hg; have hcz9_0 := cz0 BK235; have hcz9_1 := cz1 BK235; have hfz9_0 := blk_frozen BK235.out 0; have hfz9_1 := blk_frozen BK235.out 1))
    go_ret
    exact ⟨by first | rfl | (simp [errW_none, errW_some] <;> rfl) | (simp [*, errW_none, errW_some] <;> rfl), bB HB⟩

  rw [if_pos c3] at H
  have c3b0 : ((a1.size : Int) == a0_0) = true := beq_iff_eq.mpr c3
  have c3b1 : ((a1.size : Int) != a0_0) = false := bne_eq_false_iff_eq.mpr c3
  clear c3
  replace H := Option.bind_eq_some_iff.mp H
  obtain ⟨t236, A40, H⟩ := H
  try dsimp only at H
  have A4 := Aside0.mk A40
  clear A40
  obtain rfl := Option.some.inj H
  go_enter Try.func97, Try.ntmps97
  go_wp2_with (first | ((with_reducible refine gate_dst (N := 2) rfl ?_); refine box_event ?hg (N := 2) ?hd (cs := #[.int .i64 a0_0, .int .i64 a0_1]) (t := 31) ?hr ?_; (case hd => rfl); (case hg => rfl); (case hr => first | (go_simp; done) | (go_simp; rfl)); intro gb235 hg w5 hbox hb; have n0_ := bsx hb HB; have n1_ := Aside0.mk (hbox); have n2_ := gwx hg HB; have n3_ := n2_; clear HB; have HB := n0_; have BK235 := n1_; have GW235 := n2_; have GE235 := n3_; clear n0_ n1_ n2_ n3_; clear hb hbox hg; have hcz6_0 := cz0 BK235; have hcz6_1 := cz1 BK235; have hfz6_0 := blk_frozen BK235.out 0; have hfz6_1 := blk_frozen BK235.out 1) | (go_at_call 100; (with_reducible refine (impl_Lock_isText.calls k a0_0 a0_1 a1 t236 _ A4.out).mono ?_); rintro e w7 ⟨rfl, hb⟩; replace BK235 := bbx hb BK235; replace HB := bsx hb HB; skip; (try clear hb); (try clear hb2); (try clear hk); (try clear hi)))
  go_ret
  exact ⟨by first | rfl | (simp [errW_none, errW_some] <;> rfl) | (simp [*, errW_none, errW_some] <;> rfl), bB HB⟩
/-! ### impl_has: function 77 -/
def impl_has.l0 : Nat → List ByteArray → Int → Int → Int → Int → Option (Bool)
  | 0, _, _, _, _, _ => none
  | k + 1, x10, x11, x12, x238000, x238001 => if x12 < x11 then (if 0 ≤ x12 then (if x12 < (x10.length : Int) then ((impl_Lock_isCode.f k x238000 x238001 (rdOf ByteArray.empty x10 x12)).bind fun t240 => (if t240 = true then (impl_has.l0 k x10 x11 (wrap64 (x12 + 1)) x238000 x238001) else (some false))) else (none)) else (none)) else (some true)
def impl_has.f (k : Nat) (a0_0 : Int) (a0_1 : Int) (l1 : List ByteArray) : Option (Bool) := (impl_IsLock.f a0_0 a0_1).bind fun t238 => (if t238 = true then (impl_has.l0 k l1 (l1.length : Int) 0 a0_0 a0_1) else (some false))
theorem impl_has.mono_l : ∀ k, (∀ y0 y1 y2 y3 y4, LeO (impl_has.l0 k y0 y1 y2 y3 y4) (impl_has.l0 (k + 1) y0 y1 y2 y3 y4))
  | 0 => fun _ _ _ _ _ r h => by simp [impl_has.l0] at h
  | k + 1 => by
    have ih0 := impl_has.mono_l k
    · intro y0 y1 y2 y3 y4
      unfold impl_has.l0
      repeat' first
      | (with_reducible exact ih0 _ _ _ _ _)
      | (with_reducible exact impl_Lock_isCode.mono _ _ _ _)
      | (with_reducible exact LeO.refl _)
      | (with_reducible exact LeO.none _)
      | (with_reducible refine LeO.ite ?_ ?_)
      | (with_reducible refine LeO.bind ?_ (fun _ => ?_))
      | exact ih0 _ _ _ _ _
      | exact impl_Lock_isCode.mono _ _ _ _
      | exact LeO.none _
      | refine LeO.ite ?_ ?_
      | refine LeO.bind ?_ (fun _ => ?_)
theorem impl_has.mono : ∀ a0 a1 a2 k, LeO (impl_has.f k a0 a1 a2) (impl_has.f (k + 1) a0 a1 a2) := by
  intro a0 a1 a2 k
  have ih0 := impl_has.mono_l k
  unfold impl_has.f
  repeat' first
      | (with_reducible exact ih0 _ _ _ _ _)
      | (with_reducible exact impl_Lock_isCode.mono _ _ _ _)
      | (with_reducible exact LeO.refl _)
      | (with_reducible exact LeO.none _)
      | (with_reducible refine LeO.ite ?_ ?_)
      | (with_reducible refine LeO.bind ?_ (fun _ => ?_))
      | exact ih0 _ _ _ _ _
      | exact impl_Lock_isCode.mono _ _ _ _
      | exact LeO.none _
      | refine LeO.ite ?_ ?_
      | refine LeO.bind ?_ (fun _ => ?_)
set_option maxHeartbeats 8000000 in
set_option maxRecDepth 100000 in
theorem impl_has.calls (k : Nat) (a0_0 : Int) (a0_1 : Int) (A1 : Option Addr) (c1 : Nat) (l1 : List ByteArray) (r : Bool) (w : World) (hr1 : Kd.C Kd.string w A1 l1.length l1) (hc1 : l1.length ≤ c1) (h : impl_has.f k a0_0 a0_1 l1 = some r) :
    Calls Try.prog 77 #[.agg #[.int .i64 a0_0, .int .i64 a0_1], .slice A1 l1.length c1] w fun e w' => e = .returned (.bool r) ∧ Below w.heap.size w w' := by
  have hu31 := Try.underlying31
  have HR1 := Aside0.mk hr1
  have HC1 := Aside0.mk hc1
  clear hr1 hc1
  have HB := Aside0.mk (Below.refl w.heap.size w)
  have H : ((impl_IsLock.f a0_0 a0_1).bind fun t238 => (if t238 = true then (impl_has.l0 k l1 (l1.length : Int) 0 a0_0 a0_1) else (some false))) = some r := h
  clear h
  replace H := Option.bind_eq_some_iff.mp H
  obtain ⟨t238, A30, H⟩ := H
  try dsimp only at H
  have A3 := Aside0.mk A30
  clear A30
  by_cases c4 : t238 = true
  rotate_left
  · replace c4 := Bool.eq_false_iff.mpr c4
    subst c4
    rw [if_neg (show ¬ (false = true) by decide)] at H
    obtain rfl := Option.some.inj H
    go_enter Try.func77, Try.ntmps77
    go_wp2_with (first | ((with_reducible refine gate_dst (N := 2) rfl ?_); refine box_event ?hg (N := 2) ?hd (cs := #[.int .i64 a0_0, .int .i64 a0_1]) (t := 31) ?hr ?_; (case hd => rfl); (case hg => rfl); (case hr => first | (go_simp; done) | (go_simp; rfl)); intro gb237 hg w17 hbox hb; have n0_ := bsx hb HB; have n1_ := Aside0.mk (hbox); have n2_ := gwx hg HB; have n3_ := n2_; clear HB; have HB := n0_; have BK237 := n1_; have GW237 := n2_; have GE237 := n3_; clear n0_ n1_ n2_ n3_; clear hb hbox hg; have hcz18_0 := cz0 BK237; have hcz18_1 := cz1 BK237; have hfz18_0 := blk_frozen BK237.out 0; have hfz18_1 := blk_frozen BK237.out 1) | ((with_reducible refine gate_callee (f := 86) rfl ?_); refine goesL_ (some 8) rfl rfl Try.func86 (by kernel_rfl) rfl #[.agg #[.int .i64 a0_0, .int .i64 a0_1]] rfl (by (try simp only [m_1, m_2, m_3]); first | done | rfl | (simp only [m_4, m_5]; rfl)) ?_; (with_reducible refine (impl_IsLock.calls a0_0 a0_1 false _ A3.out).mono ?_); rintro e w19 ⟨rfl, hb⟩; refine ⟨_, rfl, ?_⟩; replace BK237 := bbx hb BK237; replace HB := bsx hb HB; skip; (try clear hb); (try clear hb2); (try clear hk); (try clear hi)))
    go_ret
    exact ⟨by first | rfl | (simp [errW_none, errW_some] <;> rfl) | (simp [*, errW_none, errW_some] <;> rfl), bB HB⟩

  subst c4
  rw [if_pos rfl] at H
  have H' := Aside0.mk H
  clear H
  go_enter Try.func77, Try.ntmps77
  go_wp2_with (first | ((with_reducible refine gate_dst (N := 2) rfl ?_); refine box_event ?hg (N := 2) ?hd (cs := #[.int .i64 a0_0, .int .i64 a0_1]) (t := 31) ?hr ?_; (case hd => rfl); (case hg => rfl); (case hr => first | (go_simp; done) | (go_simp; rfl)); intro gb237 hg w5 hbox hb; have n0_ := bsx hb HB; have n1_ := Aside0.mk (hbox); have n2_ := gwx hg HB; have n3_ := n2_; clear HB; have HB := n0_; have BK237 := n1_; have GW237 := n2_; have GE237 := n3_; clear n0_ n1_ n2_ n3_; clear hb hbox hg; have hcz6_0 := cz0 BK237; have hcz6_1 := cz1 BK237; have hfz6_0 := blk_frozen BK237.out 0; have hfz6_1 := blk_frozen BK237.out 1) | ((with_reducible refine gate_callee (f := 86) rfl ?_); refine goesL_ (some 8) rfl rfl Try.func86 (by kernel_rfl) rfl #[.agg #[.int .i64 a0_0, .int .i64 a0_1]] rfl (by (try simp only [m_1, m_2, m_3]); first | done | rfl | (simp only [m_4, m_5]; rfl)) ?_; (with_reducible refine (impl_IsLock.calls a0_0 a0_1 true _ A3.out).mono ?_); rintro e w7 ⟨rfl, hb⟩; refine ⟨_, rfl, ?_⟩; replace BK237 := bbx hb BK237; replace HB := bsx hb HB; skip; (try clear hb); (try clear hb2); (try clear hk); (try clear hi)))
  go_loopg [12] k (fun kq v12 w' => ∃ (x12_1 : Int), v12 = .int .i64 x12_1 ∧ Aside0 (impl_has.l0 kq l1 (l1.length : Int) x12_1 a0_0 a0_1 = some r) ∧ Aside0 (kq ≤ k) ∧ Aside0 (w'.heap[gb237]? = some (.cells #[.int .i64 a0_0, .int .i64 a0_1] 31 (0, 0))) ∧ Aside0 (Below w.heap.size w w'))
  case atStart => exact ⟨(0), (by first | rfl | (simp; done) | (simp [*]; done)), H', ⟨Nat.le_refl _⟩, ⟨bK BK237⟩, ⟨bB HB⟩⟩
  clear H'
  try clear c1
  try clear c4
  try clear hcz6_0
  try clear hcz6_1
  try clear hfz6_0
  try clear hfz6_1
  obtain ⟨x12_1, rfl, HA, HK1, BK237, HB⟩ := hrel
  rcases gk with _ | k1
  · exact absurd HA.out (by simp [impl_has.l0])
  have H := HA.out
  clear HA
  simp only [impl_has.l0] at H
  by_cases c8 : x12_1 < (l1.length : Int)
  rotate_left
  · rw [if_neg c8] at H
    have c8b0 : decide (x12_1 < (l1.length : Int)) = false := decide_eq_false c8
    clear c8
    obtain rfl := Option.some.inj H
    go_wp2
    go_ret
    exact ⟨by first | rfl | (simp [errW_none, errW_some] <;> rfl) | (simp [*, errW_none, errW_some] <;> rfl), bB HB⟩
  rw [if_pos c8] at H
  have c8b0 : decide (x12_1 < (l1.length : Int)) = true := decide_eq_true c8
  clear c8
  by_cases c9 : 0 ≤ x12_1
  rotate_left
  · rw [if_neg c9] at H
    exact absurd H (by simp)
  rw [if_pos c9] at H
  have c9b0 : decide (0 ≤ x12_1) = true := decide_eq_true c9
  clear c9
  by_cases c10 : x12_1 < (l1.length : Int)
  rotate_left
  · rw [if_neg c10] at H
    exact absurd H (by simp)
  rw [if_pos c10] at H
  have c10b0 : decide (x12_1 < (l1.length : Int)) = true := decide_eq_true c10
  clear c10
  replace H := Option.bind_eq_some_iff.mp H
  obtain ⟨t240, A110, H⟩ := H
  try dsimp only at H
  have A11 := Aside0.mk A110
  clear A110
  by_cases c12 : t240 = true
  rotate_left
  · replace c12 := Bool.eq_false_iff.mpr c12
    subst c12
    rw [if_neg (show ¬ (false = true) by decide)] at H
    obtain rfl := Option.some.inj H
    have p239 : 0 ≤ (x12_1 : Int) := of_decide_eq_true (by first | (with_reducible assumption) | assumption)
    have q239 : x12_1 < (l1.length : Int) := of_decide_eq_true (by first | (with_reducible assumption) | assumption)
    obtain ⟨ad239, e239, hx239_0⟩ := Kd.at_string HR1.out x12_1 p239 q239
    cases e239
    replace hx239_0 := (HB.out.cell (World.block_lt_of_cell? w _ hx239_0)).trans hx239_0
    replace p239 := eq_true p239
    replace q239 := eq_true q239
    have hcz15_0 := cz0 BK237
    have hcz15_1 := cz1 BK237
    have hfz15_0 := blk_frozen BK237.out 0
    have hfz15_1 := blk_frozen BK237.out 1
    go_wp2_with (first | ((with_reducible refine gate_callee (f := 97) rfl ?_); refine goesL_ (some 18) rfl rfl Try.func97 (by kernel_rfl) rfl #[.agg #[.int .i64 a0_0, .int .i64 a0_1], .string (rdOf ByteArray.empty l1 x12_1)] rfl (by (try simp only [m_1, m_2, m_3]); first | done | rfl | (simp only [m_4, m_5]; rfl)) ?_; (with_reducible refine (impl_Lock_isCode.calls k1 a0_0 a0_1 (rdOf ByteArray.empty l1 x12_1) false _ A11.out).mono ?_); rintro e w16 ⟨rfl, hb⟩; refine ⟨_, rfl, ?_⟩; replace BK237 := bbx hb BK237; replace HB := bsx hb HB; skip; (try clear hb); (try clear hb2); (try clear hk); (try clear hi)))
    go_ret
    exact ⟨by first | rfl | (simp [errW_none, errW_some] <;> rfl) | (simp [*, errW_none, errW_some] <;> rfl), bB HB⟩
  subst c12
  rw [if_pos rfl] at H
  have H' := Aside0.mk H
  clear H
  have p239 : 0 ≤ (x12_1 : Int) := of_decide_eq_true (by first | (with_reducible assumption) | assumption)
  have q239 : x12_1 < (l1.length : Int) := of_decide_eq_true (by first | (with_reducible assumption) | assumption)
  obtain ⟨ad239, e239, hx239_0⟩ := Kd.at_string HR1.out x12_1 p239 q239
  cases e239
  replace hx239_0 := (HB.out.cell (World.block_lt_of_cell? w _ hx239_0)).trans hx239_0
  replace p239 := eq_true p239
  replace q239 := eq_true q239
  have hcz13_0 := cz0 BK237
  have hcz13_1 := cz1 BK237
  have hfz13_0 := blk_frozen BK237.out 0
  have hfz13_1 := blk_frozen BK237.out 1
  go_wp2_with (first | ((with_reducible refine gate_callee (f := 97) rfl ?_); refine goesL_ (some 18) rfl rfl Try.func97 (by kernel_rfl) rfl #[.agg #[.int .i64 a0_0, .int .i64 a0_1], .string (rdOf ByteArray.empty l1 x12_1)] rfl (by (try simp only [m_1, m_2, m_3]); first | done | rfl | (simp only [m_4, m_5]; rfl)) ?_; (with_reducible refine (impl_Lock_isCode.calls k1 a0_0 a0_1 (rdOf ByteArray.empty l1 x12_1) true _ A11.out).mono ?_); rintro e w14 ⟨rfl, hb⟩; refine ⟨_, rfl, ?_⟩; replace BK237 := bbx hb BK237; replace HB := bsx hb HB; skip; (try clear hb); (try clear hb2); (try clear hk); (try clear hi)))
  go_roundg k1
  case measure => have := HK1.out; omega
  case rel => exact ⟨(wrap64 (x12_1 + 1)), (by first | rfl | (simp; done) | (simp [*]; done)), H', ⟨by have := HK1.out; omega⟩, ⟨bK BK237⟩, ⟨bB HB⟩⟩
/-! ### impl_geared: function 40 -/
def impl_geared.f (k : Nat) (a0_0 : Int) (a0_1 : Int) (l0_2 : List (List Int)) (l1 : List ByteArray) : Option (Bool) := (impl_AreGears.f k a0_0 a0_1 l0_2).bind fun t242 => (if t242 = true then ((impl_has.f k a0_0 a0_1 l1).bind fun t243 => (some t243)) else (some false))
theorem impl_geared.mono : ∀ a0 a1 a2 a3 k, LeO (impl_geared.f k a0 a1 a2 a3) (impl_geared.f (k + 1) a0 a1 a2 a3) := by
  intro a0 a1 a2 a3 k
  unfold impl_geared.f
  repeat' first
      | (with_reducible exact impl_AreGears.mono _ _ _ _)
      | (with_reducible exact impl_has.mono _ _ _ _)
      | (with_reducible exact LeO.refl _)
      | (with_reducible exact LeO.none _)
      | (with_reducible refine LeO.ite ?_ ?_)
      | (with_reducible refine LeO.bind ?_ (fun _ => ?_))
      | exact impl_AreGears.mono _ _ _ _
      | exact impl_has.mono _ _ _ _
      | exact LeO.none _
      | refine LeO.ite ?_ ?_
      | refine LeO.bind ?_ (fun _ => ?_)
set_option maxHeartbeats 8000000 in
set_option maxRecDepth 100000 in
theorem impl_geared.calls (k : Nat) (a0_0 : Int) (a0_1 : Int) (A0_2 : Option Addr) (c0_2 : Nat) (l0_2 : List (List Int)) (A1 : Option Addr) (c1 : Nat) (l1 : List ByteArray) (r : Bool) (w : World) (hr0_2 : Kd.C (Kd.slice 3 (Kd.int .i64)) w A0_2 l0_2.length l0_2) (hc0_2 : l0_2.length ≤ c0_2) (hr1 : Kd.C Kd.string w A1 l1.length l1) (hc1 : l1.length ≤ c1) (h : impl_geared.f k a0_0 a0_1 l0_2 l1 = some r) :
    Calls Try.prog 40 #[.agg #[.int .i64 a0_0, .int .i64 a0_1, .slice A0_2 l0_2.length c0_2], .slice A1 l1.length c1] w fun e w' => e = .returned (.bool r) ∧ Below w.heap.size w w' := by
  have hu33 := Try.underlying33
  have hu31 := Try.underlying31
  have HR0_2 := Aside0.mk hr0_2
  have HC0_2 := Aside0.mk hc0_2
  clear hr0_2 hc0_2
  have HR1 := Aside0.mk hr1
  have HC1 := Aside0.mk hc1
  clear hr1 hc1
  have HB := Aside0.mk (Below.refl w.heap.size w)
  have H : ((impl_AreGears.f k a0_0 a0_1 l0_2).bind fun t242 => (if t242 = true then ((impl_has.f k a0_0 a0_1 l1).bind fun t243 => (some t243)) else (some false))) = some r := h
  clear h
  replace H := Option.bind_eq_some_iff.mp H
  obtain ⟨t242, A30, H⟩ := H
  try dsimp only at H
  have A3 := Aside0.mk A30
  clear A30
  by_cases c4 : t242 = true
  rotate_left
  · replace c4 := Bool.eq_false_iff.mpr c4
    subst c4
    rw [if_neg (show ¬ (false = true) by decide)] at H
    obtain rfl := Option.some.inj H
    go_enter Try.func40, Try.ntmps40
    go_wp2_with (first | ((with_reducible refine gate_dst (N := 2) rfl ?_); refine box_event ?hg (N := 2) ?hd (cs := #[.int .i64 a0_0, .int .i64 a0_1, .slice A0_2 l0_2.length c0_2]) (t := 33) ?hr ?_; (case hd => rfl); (case hg => rfl); (case hr => first | (go_simp; done) | (go_simp; rfl)); intro gb241 hg w11 hbox hb; have n0_ := bsx hb HB; have n1_ := Aside0.mk (hbox); have n2_ := gwx hg HB; have n3_ := n2_; clear HB; have HB := n0_; have BK241 := n1_; have GW241 := n2_; have GE241 := n3_; clear n0_ n1_ n2_ n3_; clear hb hbox hg; have hcz12_0 : w11.cell? ⟨gb241, 0, none⟩ = some (.int .i64 a0_0) := (blk_cell BK241.out 0).trans rfl; have hcz12_1 : w11.cell? ⟨gb241, 1, none⟩ = some (.int .i64 a0_1) := (blk_cell BK241.out 1).trans rfl; have hcz12_2 : w11.cell? ⟨gb241, 2, none⟩ = some (.slice A0_2 l0_2.length c0_2) := (blk_cell BK241.out 2).trans rfl; have hfz12_0 := blk_frozen BK241.out 0; have hfz12_1 := blk_frozen BK241.out 1; have hfz12_2 := blk_frozen BK241.out 2) | ((with_reducible refine gate_callee (f := 21) rfl ?_); refine goesL_ (some 6) rfl rfl Try.func21 (by kernel_rfl) rfl #[.agg #[.int .i64 a0_0, .int .i64 a0_1, .slice A0_2 l0_2.length c0_2]] rfl (by (try simp only [m_1, m_2, m_3]); first | done | rfl | (simp only [m_4, m_5]; rfl)) ?_; (with_reducible refine (impl_AreGears.calls k a0_0 a0_1 _ _ l0_2 false _ ?side1 ?side2 A3.out).mono ?_); (case side1 => repeat (first | exact (Kd.C_below HR0_2.out HB.out) | (with_reducible refine Kd.C_alloc ?_ _) | (with_reducible refine Kd.C_drewN ?_ _) | (with_reducible refine Kd.C_drew ?_))); (case side2 => exact HC0_2.out); rintro e w13 ⟨rfl, hb⟩; refine ⟨_, rfl, ?_⟩; replace BK241 := bbx hb BK241; replace HB := bsx hb HB; skip; (try clear hb); (try clear hb2); (try clear hk); (try clear hi)))
    go_ret
    exact ⟨by first | rfl | (simp [errW_none, errW_some] <;> rfl) | (simp [*, errW_none, errW_some] <;> rfl), bB HB⟩

  subst c4
  rw [if_pos rfl] at H
  replace H := Option.bind_eq_some_iff.mp H
  obtain ⟨t243, A50, H⟩ := H
  try dsimp only at H
  have A5 := Aside0.mk A50
  clear A50
  obtain rfl := Option.some.inj H
  go_enter Try.func40, Try.ntmps40
  go_wp2_with (first | ((with_reducible refine gate_dst (N := 2) rfl ?_); refine box_event ?hg (N := 2) ?hd (cs := #[.int .i64 a0_0, .int .i64 a0_1, .slice A0_2 l0_2.length c0_2]) (t := 33) ?hr ?_; (case hd => rfl); (case hg => rfl); (case hr => first | (go_simp; done) | (go_simp; rfl)); intro gb241 hg w6 hbox hb; have n0_ := bsx hb HB; have n1_ := Aside0.mk (hbox); have n2_ := gwx hg HB; have n3_ := n2_; clear HB; have HB := n0_; have BK241 := n1_; have GW241 := n2_; have GE241 := n3_; clear n0_ n1_ n2_ n3_; clear hb hbox hg; have hcz7_0 : w6.cell? ⟨gb241, 0, none⟩ = some (.int .i64 a0_0) := (blk_cell BK241.out 0).trans rfl; have hcz7_1 : w6.cell? ⟨gb241, 1, none⟩ = some (.int .i64 a0_1) := (blk_cell BK241.out 1).trans rfl; have hcz7_2 : w6.cell? ⟨gb241, 2, none⟩ = some (.slice A0_2 l0_2.length c0_2) := (blk_cell BK241.out 2).trans rfl; have hfz7_0 := blk_frozen BK241.out 0; have hfz7_1 := blk_frozen BK241.out 1; have hfz7_2 := blk_frozen BK241.out 2) | ((with_reducible refine gate_callee (f := 21) rfl ?_); refine goesL_ (some 6) rfl rfl Try.func21 (by kernel_rfl) rfl #[.agg #[.int .i64 a0_0, .int .i64 a0_1, .slice A0_2 l0_2.length c0_2]] rfl (by (try simp only [m_1, m_2, m_3]); first | done | rfl | (simp only [m_4, m_5]; rfl)) ?_; (with_reducible refine (impl_AreGears.calls k a0_0 a0_1 _ _ l0_2 true _ ?side1 ?side2 A3.out).mono ?_); (case side1 => repeat (first | exact (Kd.C_below HR0_2.out HB.out) | (with_reducible refine Kd.C_alloc ?_ _) | (with_reducible refine Kd.C_drewN ?_ _) | (with_reducible refine Kd.C_drew ?_))); (case side2 => exact HC0_2.out); rintro e w8 ⟨rfl, hb⟩; refine ⟨_, rfl, ?_⟩; replace BK241 := bbx hb BK241; replace HB := bsx hb HB; skip; (try clear hb); (try clear hb2); (try clear hk); (try clear hi); have hcz9_0 : w8.cell? ⟨gb241, 0, none⟩ = some (.int .i64 a0_0) := (blk_cell BK241.out 0).trans rfl; have hcz9_1 : w8.cell? ⟨gb241, 1, none⟩ = some (.int .i64 a0_1) := (blk_cell BK241.out 1).trans rfl; have hcz9_2 : w8.cell? ⟨gb241, 2, none⟩ = some (.slice A0_2 l0_2.length c0_2) := (blk_cell BK241.out 2).trans rfl; have hfz9_0 := blk_frozen BK241.out 0; have hfz9_1 := blk_frozen BK241.out 1; have hfz9_2 := blk_frozen BK241.out 2) | (go_at_call 77; (with_reducible refine (impl_has.calls k a0_0 a0_1 _ _ l1 t243 _ ?side1 ?side2 A5.out).mono ?_); (case side1 => repeat (first | exact (Kd.C_below HR1.out HB.out) | (with_reducible refine Kd.C_alloc ?_ _) | (with_reducible refine Kd.C_drewN ?_ _) | (with_reducible refine Kd.C_drew ?_))); (case side2 => exact HC1.out); rintro e w10 ⟨rfl, hb⟩; replace BK241 := bbx hb BK241; replace HB := bsx hb HB; skip; (try clear hb); (try clear hb2); (try clear hk); (try clear hi)))
  go_ret
  exact ⟨by first | rfl | (simp [errW_none, errW_some] <;> rfl) | (simp [*, errW_none, errW_some] <;> rfl), bB HB⟩
/-! ### impl_digits: function 80 -/
def impl_digits.l0 : Nat → ByteArray → List Int → Int → Int → Option (List Int)
  | 0, _, _, _, _ => none
  | k + 1, x0, x3, x7, x8 => if x8 < x7 then (if 0 ≤ x8 then (if x8 < (x0.size : Int) then (if x3.length < 17592186044416 then (impl_digits.l0 k x0 (x3 ++ [((bt x0 x8) - 48) % 256]) x7 (wrap64 (x8 + 1))) else (none)) else (none)) else (none)) else (some x3)
def impl_digits.f (k : Nat) (a0 : ByteArray) : Option (List Int) := impl_digits.l0 k a0 (([] : List Int)) (a0.size : Int) 0
theorem impl_digits.mono_l : ∀ k, (∀ y0 y1 y2 y3, LeO (impl_digits.l0 k y0 y1 y2 y3) (impl_digits.l0 (k + 1) y0 y1 y2 y3))
  | 0 => fun _ _ _ _ r h => by simp [impl_digits.l0] at h
  | k + 1 => by
    have ih0 := impl_digits.mono_l k
    · intro y0 y1 y2 y3
      unfold impl_digits.l0
      repeat' first
      | (with_reducible exact ih0 _ _ _ _)
      | (with_reducible exact LeO.refl _)
      | (with_reducible exact LeO.none _)
      | (with_reducible refine LeO.ite ?_ ?_)
      | (with_reducible refine LeO.bind ?_ (fun _ => ?_))
      | exact ih0 _ _ _ _
      | exact LeO.none _
      | refine LeO.ite ?_ ?_
      | refine LeO.bind ?_ (fun _ => ?_)
theorem impl_digits.mono : ∀ a0 k, LeO (impl_digits.f k a0) (impl_digits.f (k + 1) a0) := by
  intro a0 k
  have ih0 := impl_digits.mono_l k
  unfold impl_digits.f
  repeat' first
      | (with_reducible exact ih0 _ _ _ _)
      | (with_reducible exact LeO.refl _)
      | (with_reducible exact LeO.none _)
      | (with_reducible refine LeO.ite ?_ ?_)
      | (with_reducible refine LeO.bind ?_ (fun _ => ?_))
      | exact ih0 _ _ _ _
      | exact LeO.none _
      | refine LeO.ite ?_ ?_
      | refine LeO.bind ?_ (fun _ => ?_)
set_option maxHeartbeats 8000000 in
set_option maxRecDepth 100000 in
theorem impl_digits.calls (k : Nat) (a0 : ByteArray) (r : List Int) (w : World) (h : impl_digits.f k a0 = some r) :
    Calls Try.prog 80 #[.string a0] w fun e w' => ∃ v0_ : Value, e = .returned (v0_) ∧ Kd.R (Kd.int .i64) 3 w' w.heap.size (fun _ => True) v0_ r ∧ Below w.heap.size w w' := by
  have HB := Aside0.mk (Below.refl w.heap.size w)
  have H : (impl_digits.l0 k a0 (([] : List Int)) (a0.size : Int) 0) = some r := h
  clear h
  obtain ⟨y244, hy244⟩ : ∃ y_ : List Int, y_ = (([] : List Int)) := ⟨_, rfl⟩
  replace H : (impl_digits.l0 k a0 y244 (a0.size : Int) 0) = some r := by first | (rw [hy244]; with_reducible exact H) | (have H2_ := (Option.bind_some _ _).symm.trans H; rw [hy244]; with_reducible exact H2_) | (have H2_ := (Option.bind_some _ _).symm.trans H; with_reducible exact H2_) | with_reducible exact H | (rw [hy244]; exact H) | exact H
  have Ny244 := Aside0.mk hy244
  clear hy244
  have H' := Aside0.mk H
  clear H
  go_enter Try.func80, Try.ntmps80
  go_wp2_with (first | ((with_reducible refine gate_dst (N := 5) rfl ?_); refine Kd.R_lit (Kd.int .i64) _ 3 ?hg (N := 5) ?hd (xs := ([] : List Int)) (inner := []) (ok := fun _ => True) (okp := fun _ => True) ?hr ?hp (fun _ hk => hk) trivial (Below.refl _ _) (Nat.le_refl _) (by simp) ?_; (case hd => rfl); (case hg => rfl); (case hr => first | (go_simp; done) | (go_simp; rfl)); (case hp => exact (Reps.none _ _)); intro v245 w2 ho3 hb hg_ hnew_; clear hg_ hnew_; (first | rw [← Ny244.out] at ho3 | (simp only [Int.reduceToNat] at ho3; rw [← Ny244.out] at ho3)); have n0_ := Aside0.mk (Kd.R_lower ho3 (below_size (bB HB))); have n1_ := bsx hb HB; clear HB; have HO246 := n0_; have HB := n1_; clear n0_ n1_; clear hb ho3))
  go_loopg [3, 8] k (fun kq v3 v8 w' => ∃ (x3_1 : List Int) (x8_1 : Int), v8 = .int .i64 x8_1 ∧ Aside0 (impl_digits.l0 kq a0 x3_1 (a0.size : Int) x8_1 = some r) ∧ Aside0 (kq ≤ k) ∧ Aside0 (Kd.R (Kd.int .i64) 3 w' w.heap.size (fun _ => True) v3 x3_1) ∧ Aside0 (Below w.heap.size w w'))
  case atStart => exact ⟨(y244), (0), (by first | rfl | (simp; done) | (simp [*]; done)), H', ⟨Nat.le_refl _⟩, ⟨by (with_reducible repeat (first | apply r_a | apply r_d | apply r_e)); exact HO246.out⟩, ⟨bB HB⟩⟩
  clear H'
  obtain ⟨x3_1, x8_1, rfl, HA, HK1, HO_3, HB⟩ := hrel
  rcases gk with _ | k1
  · exact absurd HA.out (by simp [impl_digits.l0])
  have H := HA.out
  clear HA
  simp only [impl_digits.l0] at H
  by_cases c4 : x8_1 < (a0.size : Int)
  rotate_left
  · rw [if_neg c4] at H
    have c4b0 : decide (x8_1 < (a0.size : Int)) = false := decide_eq_false c4
    clear c4
    obtain rfl := Option.some.inj H
    go_wp2
    go_ret
    exact ⟨_, by first | rfl | (simp [errW_none, errW_some] <;> rfl) | (simp [*, errW_none, errW_some] <;> rfl), by (with_reducible repeat (first | apply r_a | apply r_d | apply r_e)); exact HO_3.out, bB HB⟩

  rw [if_pos c4] at H
  have c4b0 : decide (x8_1 < (a0.size : Int)) = true := decide_eq_true c4
  clear c4
  by_cases c5 : 0 ≤ x8_1
  rotate_left
  · rw [if_neg c5] at H
    exact absurd H (by simp)
  rw [if_pos c5] at H
  have c5b0 : decide (0 ≤ x8_1) = true := decide_eq_true c5
  clear c5
  by_cases c6 : x8_1 < (a0.size : Int)
  rotate_left
  · rw [if_neg c6] at H
    exact absurd H (by simp)
  rw [if_pos c6] at H
  have c6b0 : decide (x8_1 < (a0.size : Int)) = true := decide_eq_true c6
  clear c6
  by_cases c8 : x3_1.length < 17592186044416
  rotate_left
  · rw [if_neg c8] at H
    exact absurd H (by simp)
  rw [if_pos c8] at H
  have LMc8 := Aside0.mk c8
  clear c8
  obtain ⟨y247, hy247⟩ : ∃ y_ : List Int, y_ = (x3_1 ++ [((bt a0 x8_1) - 48) % 256]) := ⟨_, rfl⟩
  replace H : (impl_digits.l0 k1 a0 y247 (a0.size : Int) (wrap64 (x8_1 + 1))) = some r := by first | (rw [hy247]; with_reducible exact H) | (have H2_ := (Option.bind_some _ _).symm.trans H; rw [hy247]; with_reducible exact H2_) | (have H2_ := (Option.bind_some _ _).symm.trans H; with_reducible exact H2_) | with_reducible exact H | (rw [hy247]; exact H) | exact H
  have Ny247 := Aside0.mk hy247
  clear hy247
  have H' := Aside0.mk H
  clear H
  have p7 : 0 ≤ (x8_1 : Int) := of_decide_eq_true (by first | (with_reducible assumption) | assumption)
  have q7 : x8_1 < (a0.size : Int) := of_decide_eq_true (by first | (with_reducible assumption) | assumption)
  have hx7 := bt_at a0 x8_1
  replace p7 := eq_true p7
  replace q7 := eq_true q7
  go_wp2_with (first | ((with_reducible refine gate_builtin (b := .append) (xs := #[.tmp 11, .tmp 17]) rfl ?_); at_builtin; refine Kd.R_append (Kd.int .i64) (w0 := w) w.heap.size rfl (.tmp 11) (.tmp 17) 40 3 (.int .i64 0) 8 rfl Try.underlying40 info3 rfl (by decide) (by omega) u3 x3_1 (((bt a0 x8_1) - 48) % 256) [.int .i64 (((bt a0 x8_1) - 48) % 256)] (fun _ => True) (fun _ => False) rfl rfl ?aP (fun _ hk => hk.elim) ?aF ?aO ?aB ?aS ?aL ?_; (case aP => exact rfl); (case aB => exact (bB HB)); (case aF => exact (fun _ _ => trivial)); (case aO => exact (by (with_reducible repeat (first | apply r_a | apply r_d | apply r_e)); exact HO_3.out)); (case aS => exact (below_size (bB HB))); (case aL => have := LMc8.out; omega); intro v248 w9 ho hb hg hat; rw [← Ny247.out] at ho; have n0_ := Aside0.mk (hb); have n1_ := Aside0.mk (ho); clear HB; clear HO_3; have HB := n0_; have HO249 := n1_; clear n0_ n1_; clear ho hb hg hat))
  go_roundg k1
  case measure => have := HK1.out; omega
  case rel => exact ⟨(y247), (wrap64 (x8_1 + 1)), (by first | rfl | (simp; done) | (simp [*]; done)), H', ⟨by have := HK1.out; omega⟩, ⟨by (with_reducible repeat (first | apply r_a | apply r_d | apply r_e)); exact HO249.out⟩, ⟨bB HB⟩⟩
/-! ### impl_Lock_number: function 42 -/
def impl_Lock_number.l0 : Nat → Int → List Int → Int → Int → Int → Int → Option (Int)
  | 0, _, _, _, _, _, _ => none
  | k + 1, x5, x9, x10, x11, x251000, x251001 => if x11 < x10 then (if 0 ≤ x11 then (if x11 < (x9.length : Int) then (impl_Lock_number.l0 k (wrap64 ((wrap64 (x5 * x251001)) + (rd x9 x11))) x9 x10 (wrap64 (x11 + 1)) x251000 x251001) else (none)) else (none)) else (some x5)
def impl_Lock_number.f (k : Nat) (a0_0 : Int) (a0_1 : Int) (a1 : ByteArray) : Option (Int) := (impl_digits.f k a1).bind fun t251 => (impl_Lock_number.l0 k 0 t251 (t251.length : Int) 0 a0_0 a0_1)
theorem impl_Lock_number.mono_l : ∀ k, (∀ y0 y1 y2 y3 y4 y5, LeO (impl_Lock_number.l0 k y0 y1 y2 y3 y4 y5) (impl_Lock_number.l0 (k + 1) y0 y1 y2 y3 y4 y5))
  | 0 => fun _ _ _ _ _ _ r h => by simp [impl_Lock_number.l0] at h
  | k + 1 => by
    have ih0 := impl_Lock_number.mono_l k
    · intro y0 y1 y2 y3 y4 y5
      unfold impl_Lock_number.l0
      repeat' first
      | (with_reducible exact ih0 _ _ _ _ _ _)
      | (with_reducible exact impl_digits.mono _ _)
      | (with_reducible exact LeO.refl _)
      | (with_reducible exact LeO.none _)
      | (with_reducible refine LeO.ite ?_ ?_)
      | (with_reducible refine LeO.bind ?_ (fun _ => ?_))
      | exact ih0 _ _ _ _ _ _
      | exact impl_digits.mono _ _
      | exact LeO.none _
      | refine LeO.ite ?_ ?_
      | refine LeO.bind ?_ (fun _ => ?_)
theorem impl_Lock_number.mono : ∀ a0 a1 a2 k, LeO (impl_Lock_number.f k a0 a1 a2) (impl_Lock_number.f (k + 1) a0 a1 a2) := by
  intro a0 a1 a2 k
  have ih0 := impl_Lock_number.mono_l k
  unfold impl_Lock_number.f
  repeat' first
      | (with_reducible exact ih0 _ _ _ _ _ _)
      | (with_reducible exact impl_digits.mono _ _)
      | (with_reducible exact LeO.refl _)
      | (with_reducible exact LeO.none _)
      | (with_reducible refine LeO.ite ?_ ?_)
      | (with_reducible refine LeO.bind ?_ (fun _ => ?_))
      | exact ih0 _ _ _ _ _ _
      | exact impl_digits.mono _ _
      | exact LeO.none _
      | refine LeO.ite ?_ ?_
      | refine LeO.bind ?_ (fun _ => ?_)
set_option maxHeartbeats 8000000 in
set_option maxRecDepth 100000 in
theorem impl_Lock_number.calls (k : Nat) (a0_0 : Int) (a0_1 : Int) (a1 : ByteArray) (r : Int) (w : World) (h : impl_Lock_number.f k a0_0 a0_1 a1 = some r) :
    Calls Try.prog 42 #[.agg #[.int .i64 a0_0, .int .i64 a0_1], .string a1] w fun e w' => e = .returned (.int .i64 r) ∧ Below w.heap.size w w' := by
  have hu31 := Try.underlying31
  have HB := Aside0.mk (Below.refl w.heap.size w)
  have H : ((impl_digits.f k a1).bind fun t251 => (impl_Lock_number.l0 k 0 t251 (t251.length : Int) 0 a0_0 a0_1)) = some r := h
  clear h
  replace H := Option.bind_eq_some_iff.mp H
  obtain ⟨t251, A30, H⟩ := H
  try dsimp only at H
  have A3 := Aside0.mk A30
  clear A30
  have H' := Aside0.mk H
  clear H
  go_enter Try.func42, Try.ntmps42
  go_wp2_with (first | ((with_reducible refine gate_dst (N := 2) rfl ?_); refine box_event ?hg (N := 2) ?hd (cs := #[.int .i64 a0_0, .int .i64 a0_1]) (t := 31) ?hr ?_; (case hd => rfl); (case hg => rfl); (case hr => first | (go_simp; done) | (go_simp; rfl)); intro gb250 hg w4 hbox hb; have n0_ := bsx hb HB; have n1_ := Aside0.mk (hbox); have n2_ := gwx hg HB; have n3_ := n2_; clear HB; have HB := n0_; have BK250 := n1_; have GW250 := n2_; have GE250 := n3_; clear n0_ n1_ n2_ n3_; clear hb hbox hg) | ((with_reducible refine gate_callee (f := 80) rfl ?_); refine goesL_ (some 9) rfl rfl Try.func80 (by kernel_rfl) rfl #[.string a1] rfl (by (try simp only [m_1, m_2, m_3]); first | done | rfl | (simp only [m_4, m_5]; rfl)) ?_; (with_reducible refine (impl_digits.calls k a1 t251 _ A3.out).mono ?_); rintro e w5 ⟨v252, rfl, ho0, hb⟩; refine ⟨_, rfl, ?_⟩; have n0_ := Aside0.mk (Kd.R_lower ho0 (below_size (bB HB))); replace BK250 := bbx hb BK250; have n2_ := bsx hb HB; clear HB; have HO253 := n0_; have HB := n2_; clear n0_ n2_; (try clear hb); (try clear hb2); (try clear hk); (try clear hi); (try clear ho0); obtain ⟨Ao6, co6, eo6⟩ := Kd.R_slice HO253.out; subst eo6))
  go_loopg [5, 11] k (fun kq v5 v11 w' => ∃ (x5_1 : Int) (x11_1 : Int), v5 = .int .i64 x5_1 ∧ v11 = .int .i64 x11_1 ∧ Aside0 (impl_Lock_number.l0 kq x5_1 t251 (t251.length : Int) x11_1 a0_0 a0_1 = some r) ∧ Aside0 (kq ≤ k) ∧ Aside0 (Kd.R (Kd.int .i64) 3 w' w.heap.size (fun _ => True) (.slice Ao6 t251.length co6) t251) ∧ Aside0 (w'.heap[gb250]? = some (.cells #[.int .i64 a0_0, .int .i64 a0_1] 31 (0, 0))) ∧ Aside0 (Below w.heap.size w w'))
  case atStart => refine ⟨(0), (0), (by first | rfl | (simp; done) | (simp [*]; done)), (by first | rfl | (simp; done) | (simp [*]; done)), H', ⟨Nat.le_refl _⟩, ⟨?_⟩, ⟨?_⟩, ⟨bB HB⟩⟩ <;> (with_reducible repeat (first | refine g_d ?_ _ | refine g_e ?_ | refine g_a ?_ _ | apply r_a | apply r_d | apply r_e)) <;> first | exact BK250.out | exact HO253.out
  clear H'
  obtain ⟨x5_1, x11_1, rfl, rfl, HA, HK1, HO_9, BK250, HB⟩ := hrel
  rcases gk with _ | k1
  · exact absurd HA.out (by simp [impl_Lock_number.l0])
  have H := HA.out
  clear HA
  simp only [impl_Lock_number.l0] at H
  by_cases c7 : x11_1 < (t251.length : Int)
  rotate_left
  · rw [if_neg c7] at H
    have c7b0 : decide (x11_1 < (t251.length : Int)) = false := decide_eq_false c7
    clear c7
    obtain rfl := Option.some.inj H
    go_wp2
    go_ret
    exact ⟨by first | rfl | (simp [errW_none, errW_some] <;> rfl) | (simp [*, errW_none, errW_some] <;> rfl), bB HB⟩

  rw [if_pos c7] at H
  have c7b0 : decide (x11_1 < (t251.length : Int)) = true := decide_eq_true c7
  clear c7
  by_cases c8 : 0 ≤ x11_1
  rotate_left
  · rw [if_neg c8] at H
    exact absurd H (by simp)
  rw [if_pos c8] at H
  have c8b0 : decide (0 ≤ x11_1) = true := decide_eq_true c8
  clear c8
  by_cases c9 : x11_1 < (t251.length : Int)
  rotate_left
  · rw [if_neg c9] at H
    exact absurd H (by simp)
  rw [if_pos c9] at H
  have c9b0 : decide (x11_1 < (t251.length : Int)) = true := decide_eq_true c9
  clear c9
  have H' := Aside0.mk H
  clear H
  have p254 : 0 ≤ (x11_1 : Int) := of_decide_eq_true (by first | (with_reducible assumption) | assumption)
  have q254 : x11_1 < (t251.length : Int) := of_decide_eq_true (by first | (with_reducible assumption) | assumption)
  obtain ⟨ad254, e254, hx254_0⟩ := Kd.at_int (Kd.R_reads' HO_9.out).2.2 x11_1 p254 q254
  cases e254
  replace p254 := eq_true p254
  replace q254 := eq_true q254
  have hcz10_0 := cz0 BK250
  have hcz10_1 := cz1 BK250
  have hfz10_0 := blk_frozen BK250.out 0
  have hfz10_1 := blk_frozen BK250.out 1
  go_wp2
  go_roundg k1
  case measure => have := HK1.out; omega
  case rel => refine ⟨(wrap64 ((wrap64 (x5_1 * a0_1)) + (rd t251 x11_1))), (wrap64 (x11_1 + 1)), (by first | rfl | (simp; done) | (simp [*]; done)), (by first | rfl | (simp; done) | (simp [*]; done)), H', ⟨by have := HK1.out; omega⟩, ⟨?_⟩, ⟨?_⟩, ⟨bB HB⟩⟩ <;> (with_reducible repeat (first | refine g_d ?_ _ | refine g_e ?_ | refine g_a ?_ _ | apply r_a | apply r_d | apply r_e)) <;> first | exact BK250.out | exact HO_9.out
/-! ### impl_turns: function 43 -/
def impl_turns.l0 : Nat → List (S48) → Int → Int → Option ((List (S48)))
  | 0, _, _, _ => none
  | k + 1, x3, x6, x7 => if x7 < x6 then ((some (([(⟨x7, 1⟩ : S48), (⟨x7, (-1)⟩ : S48)] : List (S48)) : List (S48))).bind fun y258 => (if x3.length + y258.length < 8796093022208 then (impl_turns.l0 k (x3 ++ y258) x6 (wrap64 (x7 + 1))) else (none))) else (some x3)
def impl_turns.f (k : Nat) (a0 : Int) : Option ((List (S48))) := impl_turns.l0 k (([] : List (S48))) a0 0
theorem impl_turns.mono_l : ∀ k, (∀ y0 y1 y2, LeO (impl_turns.l0 k y0 y1 y2) (impl_turns.l0 (k + 1) y0 y1 y2))
  | 0 => fun _ _ _ r h => by simp [impl_turns.l0] at h
  | k + 1 => by
    have ih0 := impl_turns.mono_l k
    · intro y0 y1 y2
      unfold impl_turns.l0
      repeat' first
      | (with_reducible exact ih0 _ _ _)
      | (with_reducible exact LeO.refl _)
      | (with_reducible exact LeO.none _)
      | (with_reducible refine LeO.ite ?_ ?_)
      | (with_reducible refine LeO.bind ?_ (fun _ => ?_))
      | exact ih0 _ _ _
      | exact LeO.none _
      | refine LeO.ite ?_ ?_
      | refine LeO.bind ?_ (fun _ => ?_)
theorem impl_turns.mono : ∀ a0 k, LeO (impl_turns.f k a0) (impl_turns.f (k + 1) a0) := by
  intro a0 k
  have ih0 := impl_turns.mono_l k
  unfold impl_turns.f
  repeat' first
      | (with_reducible exact ih0 _ _ _)
      | (with_reducible exact LeO.refl _)
      | (with_reducible exact LeO.none _)
      | (with_reducible refine LeO.ite ?_ ?_)
      | (with_reducible refine LeO.bind ?_ (fun _ => ?_))
      | exact ih0 _ _ _
      | exact LeO.none _
      | refine LeO.ite ?_ ?_
      | refine LeO.bind ?_ (fun _ => ?_)
set_option maxHeartbeats 8000000 in
set_option maxRecDepth 100000 in
theorem impl_turns.calls (k : Nat) (a0 : Int) (r : List (S48)) (w : World) (h : impl_turns.f k a0 = some r) :
    Calls Try.prog 43 #[.int .i64 a0] w fun e w' => ∃ v0_ : Value, e = .returned (v0_) ∧ Kd.R k48 48 w' w.heap.size (fun _ => True) v0_ r ∧ Below w.heap.size w w' := by
  have hu48 := Try.underlying48
  have HB := Aside0.mk (Below.refl w.heap.size w)
  have H : (impl_turns.l0 k (([] : List (S48))) a0 0) = some r := h
  clear h
  obtain ⟨y255, hy255⟩ : ∃ y_ : List (S48), y_ = (([] : List (S48))) := ⟨_, rfl⟩
  replace H : (impl_turns.l0 k y255 a0 0) = some r := by first | (rw [hy255]; with_reducible exact H) | (have H2_ := (Option.bind_some _ _).symm.trans H; rw [hy255]; with_reducible exact H2_) | (have H2_ := (Option.bind_some _ _).symm.trans H; with_reducible exact H2_) | with_reducible exact H | (rw [hy255]; exact H) | exact H
  have Ny255 := Aside0.mk hy255
  clear hy255
  have H' := Aside0.mk H
  clear H
  go_enter Try.func43, Try.ntmps43
  go_wp2_with (first | ((with_reducible refine gate_dst (N := 5) rfl ?_); refine Kd.R_lit k48 _ 48 ?hg (N := 5) ?hd (xs := ([] : List (S48))) (inner := []) (ok := fun _ => True) (okp := fun _ => True) ?hr ?hp (fun _ hk => hk) trivial (Below.refl _ _) (Nat.le_refl _) (by simp) ?_; (case hd => rfl); (case hg => rfl); (case hr => first | (go_simp; done) | (go_simp; rfl)); (case hp => exact (Reps.none _ _)); intro v256 w2 ho3 hb hg_ hnew_; clear hg_ hnew_; (first | rw [← Ny255.out] at ho3 | (simp only [Int.reduceToNat] at ho3; rw [← Ny255.out] at ho3)); have n0_ := Aside0.mk (Kd.R_lower ho3 (below_size (bB HB))); have n1_ := bsx hb HB; clear HB; have HO257 := n0_; have HB := n1_; clear n0_ n1_; clear hb ho3))
  go_loopg [3, 7] k (fun kq v3 v7 w' => ∃ (x3_1 : List (S48)) (x7_1 : Int), v7 = .int .i64 x7_1 ∧ Aside0 (impl_turns.l0 kq x3_1 a0 x7_1 = some r) ∧ Aside0 (kq ≤ k) ∧ Aside0 (Kd.R k48 48 w' w.heap.size (fun _ => True) v3 x3_1) ∧ Aside0 (Below w.heap.size w w'))
  case atStart => exact ⟨(y255), (0), (by first | rfl | (simp; done) | (simp [*]; done)), H', ⟨Nat.le_refl _⟩, ⟨by (with_reducible repeat (first | apply r_a | apply r_d | apply r_e)); exact HO257.out⟩, ⟨bB HB⟩⟩
  clear H'
  obtain ⟨x3_1, x7_1, rfl, HA, HK1, HO_3, HB⟩ := hrel
  rcases gk with _ | k1
  · exact absurd HA.out (by simp [impl_turns.l0])
  have H := HA.out
  clear HA
  simp only [impl_turns.l0] at H
  by_cases c4 : x7_1 < a0
  rotate_left
  · rw [if_neg c4] at H
    have c4b0 : decide (x7_1 < a0) = false := decide_eq_false c4
    clear c4
    obtain rfl := Option.some.inj H
    go_wp2
    go_ret
    exact ⟨_, by first | rfl | (simp [errW_none, errW_some] <;> rfl) | (simp [*, errW_none, errW_some] <;> rfl), by (with_reducible repeat (first | apply r_a | apply r_d | apply r_e)); exact HO_3.out, bB HB⟩

  rw [if_pos c4] at H
  have c4b0 : decide (x7_1 < a0) = true := decide_eq_true c4
  clear c4
  obtain ⟨y258, hy258⟩ : ∃ y_ : List (S48), y_ = (([(⟨x7_1, 1⟩ : S48), (⟨x7_1, (-1)⟩ : S48)] : List (S48))) := ⟨_, rfl⟩
  replace H : (if x3_1.length + y258.length < 8796093022208 then (impl_turns.l0 k1 (x3_1 ++ y258) a0 (wrap64 (x7_1 + 1))) else (none)) = some r := by first | (rw [hy258]; with_reducible exact H) | (have H2_ := (Option.bind_some _ _).symm.trans H; rw [hy258]; with_reducible exact H2_) | (have H2_ := (Option.bind_some _ _).symm.trans H; with_reducible exact H2_) | with_reducible exact H | (rw [hy258]; exact H) | exact H
  have Ny258 := Aside0.mk hy258
  clear hy258
  by_cases c5 : x3_1.length + y258.length < 8796093022208
  rotate_left
  · rw [if_neg c5] at H
    exact absurd H (by simp)
  rw [if_pos c5] at H
  have LMc5 := Aside0.mk c5
  clear c5
  obtain ⟨y261, hy261⟩ : ∃ y_ : List (S48), y_ = (x3_1 ++ y258) := ⟨_, rfl⟩
  replace H : (impl_turns.l0 k1 y261 a0 (wrap64 (x7_1 + 1))) = some r := by first | (rw [hy261]; with_reducible exact H) | (have H2_ := (Option.bind_some _ _).symm.trans H; rw [hy261]; with_reducible exact H2_) | (have H2_ := (Option.bind_some _ _).symm.trans H; with_reducible exact H2_) | with_reducible exact H | (rw [hy261]; exact H) | exact H
  have Ny261 := Aside0.mk hy261
  clear hy261
  have H' := Aside0.mk H
  clear H
  go_wp2_with (first | ((with_reducible refine gate_dst (N := 15) rfl ?_); refine Kd.R_lit k48 _ 48 ?hg (N := 15) ?hd (xs := ([(⟨x7_1, 1⟩ : S48), (⟨x7_1, (-1)⟩ : S48)] : List (S48))) (inner := [.int .i64 x7_1, .int .i64 1, .int .i64 x7_1, .int .i64 (-1)]) (ok := fun _ => True) (okp := fun _ => True) ?hr ?hp (fun _ hk => hk) trivial (Below.refl _ _) (Nat.le_refl _) (by simp) ?_; (case hd => rfl); (case hg => rfl); (case hr => first | (go_simp; done) | (go_simp; rfl)); (case hp => exact (Reps.c2 (show Kd.M k48 _ _ _ (⟨x7_1, 1⟩ : S48) [.int .i64 x7_1, .int .i64 1] from (k48_mkM _ _ _ (⟨x7_1, 1⟩ : S48) )) (Reps.c2 (show Kd.M k48 _ _ _ (⟨x7_1, (-1)⟩ : S48) [.int .i64 x7_1, .int .i64 (-1)] from (k48_mkM _ _ _ (⟨x7_1, (-1)⟩ : S48) )) (Reps.none _ _)))); intro v259 w6 ho7 hb hg_ hnew_; clear hg_ hnew_; (first | rw [← Ny258.out] at ho7 | (simp only [Int.reduceToNat] at ho7; rw [← Ny258.out] at ho7)); have n0_ := Aside0.mk (Kd.R_elder' (by (with_reducible repeat (first | apply r_a | apply r_d | apply r_e)); exact HO_3.out) (Kd.R_base ho7) hb); have n1_ := Aside0.mk (Kd.R_lower (Kd.R_new' ho7 (Kd.R_lt (by (with_reducible repeat (first | apply r_a | apply r_d | apply r_e)); exact HO_3.out))) (below_size (bB HB))); have n2_ := bsx hb HB; clear HO_3; clear HB; have HO_3 := n0_; have HO260 := n1_; have HB := n2_; clear n0_ n1_ n2_; clear hb ho7; obtain ⟨Ao9, co9, eo9⟩ := Kd.R_slice HO260.out; subst eo9) | ((with_reducible refine gate_builtin (b := .append) (xs := #[.tmp 10, .tmp 15]) rfl ?_); at_builtin; refine Kd.R_append_rows k48 (w0 := w) w.heap.size rfl (.tmp 10) (.tmp 15) 28 48 (.agg #[(.int .i64 0), (.int .i64 0)]) 16 rfl Try.underlying28 info48 rfl (by decide) (by omega) u3 x3_1 y258 _ _ _ (fun k_ => some k_ ≠ (.slice Ao9 y258.length co9 : Value).ownBlock) (fun _ => False) rfl rfl ?aO ?aR (fun _ _ h => h) (fun _ h => h.elim) ?aF ?aB ?aS ?aL ?_; (case aR => repeat (first | exact (Kd.R_reads' HO260.out).2.2 | (with_reducible refine Kd.C_alloc ?_ _) | (with_reducible refine Kd.C_drewN ?_ _) | (with_reducible refine Kd.C_drew ?_))); (case aB => exact (bB HB)); (case aF => exact (fun k_ hk => Kd.fresh' (Kd.R_lt (by (with_reducible repeat (first | apply r_a | apply r_d | apply r_e)); exact HO260.out)) k_ hk)); (case aO => exact (by (with_reducible repeat (first | apply r_a | apply r_d | apply r_e)); exact Kd.R_mono HO_3.out (fun _ hk => hk.2))); (case aS => exact (below_size (bB HB))); (case aL => have := LMc5.out; omega); intro v262 w8 ho hb hg hat; rw [← Ny261.out] at ho; have n0_ := Aside0.mk (Kd.R_after (ok := (fun _ => True)) (by (with_reducible repeat (first | apply r_a | apply r_d | apply r_e)); exact HO260.out) hg hat); have n1_ := Aside0.mk (hb); have n2_ := Aside0.mk (ho); clear HO260; clear HB; clear HO_3; have HO260 := n0_; have HB := n1_; have HO263 := n2_; clear n0_ n1_ n2_; clear ho hb hg hat))
  go_roundg k1
  case measure => have := HK1.out; omega
  case rel => exact ⟨(y261), (wrap64 (x7_1 + 1)), (by first | rfl | (simp; done) | (simp [*]; done)), H', ⟨by have := HK1.out; omega⟩, ⟨by (with_reducible repeat (first | apply r_a | apply r_d | apply r_e)); exact Kd.R_mono HO263.out (fun _ hk => trivial)⟩, ⟨bB HB⟩⟩
/-! ### impl_around: function 81 -/
def impl_around.f (a0 : Int) (a1 : Int) : Option (Int) := if a1 = 0 then (none) else (some (Int.tmod (wrap64 ((Int.tmod a0 a1) + a1)) a1))
set_option maxHeartbeats 8000000 in
set_option maxRecDepth 100000 in
theorem impl_around.calls (a0 : Int) (a1 : Int) (r : Int) (w : World) (h : impl_around.f a0 a1 = some r) :
    Calls Try.prog 81 #[.int .i64 a0, .int .i64 a1] w fun e w' => e = .returned (.int .i64 r) ∧ Drawn0 w w' := by
  have H : (if a1 = 0 then (none) else (some (Int.tmod (wrap64 ((Int.tmod a0 a1) + a1)) a1))) = some r := h
  clear h
  by_cases c3 : a1 = 0
  · rw [if_pos c3] at H
    exact absurd H (by simp)
  rw [if_neg c3] at H
  have c3b0 : (a1 == 0) = false := beq_eq_false_iff_ne.mpr c3
  have c3b1 : (a1 != 0) = true := bne_iff_ne.mpr c3
  obtain rfl := Option.some.inj H
  go_enter Try.func81, Try.ntmps81
  go_wp2
  go_ret
  exact ⟨by first | rfl | (simp; done) | (simp [*]; done), by repeat (first | exact Drawn0.refl _ | apply Drawn0.step)⟩

/-! ### impl_text: function 82 -/
def impl_text.l0 : Nat → List Int → List Int → Int → Int → Option (ByteArray)
  | 0, _, _, _, _ => none
  | k + 1, x3, x7, x8, x9 => if x9 < x8 then (if 0 ≤ x9 then (if x9 < (x7.length : Int) then (if x3.length < 140737488355328 then (impl_text.l0 k (x3 ++ [(wrap64 (48 + (rd x7 x9))) % 256]) x7 x8 (wrap64 (x9 + 1))) else (none)) else (none)) else (none)) else (some (strOfNums x3))
def impl_text.f (k : Nat) (l0 : List Int) : Option (ByteArray) := impl_text.l0 k (([] : List Int)) l0 (l0.length : Int) 0
theorem impl_text.mono_l : ∀ k, (∀ y0 y1 y2 y3, LeO (impl_text.l0 k y0 y1 y2 y3) (impl_text.l0 (k + 1) y0 y1 y2 y3))
  | 0 => fun _ _ _ _ r h => by simp [impl_text.l0] at h
  | k + 1 => by
    have ih0 := impl_text.mono_l k
    · intro y0 y1 y2 y3
      unfold impl_text.l0
      repeat' first
      | (with_reducible exact ih0 _ _ _ _)
      | (with_reducible exact LeO.refl _)
      | (with_reducible exact LeO.none _)
      | (with_reducible refine LeO.ite ?_ ?_)
      | (with_reducible refine LeO.bind ?_ (fun _ => ?_))
      | exact ih0 _ _ _ _
      | exact LeO.none _
      | refine LeO.ite ?_ ?_
      | refine LeO.bind ?_ (fun _ => ?_)
theorem impl_text.mono : ∀ a0 k, LeO (impl_text.f k a0) (impl_text.f (k + 1) a0) := by
  intro a0 k
  have ih0 := impl_text.mono_l k
  unfold impl_text.f
  repeat' first
      | (with_reducible exact ih0 _ _ _ _)
      | (with_reducible exact LeO.refl _)
      | (with_reducible exact LeO.none _)
      | (with_reducible refine LeO.ite ?_ ?_)
      | (with_reducible refine LeO.bind ?_ (fun _ => ?_))
      | exact ih0 _ _ _ _
      | exact LeO.none _
      | refine LeO.ite ?_ ?_
      | refine LeO.bind ?_ (fun _ => ?_)
set_option maxHeartbeats 8000000 in
set_option maxRecDepth 100000 in
theorem impl_text.calls (k : Nat) (A0 : Option Addr) (c0 : Nat) (l0 : List Int) (r : ByteArray) (w : World) (hr0 : Kd.C (Kd.int .i64) w A0 l0.length l0) (hc0 : l0.length ≤ c0) (h : impl_text.f k l0 = some r) :
    Calls Try.prog 82 #[.slice A0 l0.length c0] w fun e w' => e = .returned (.string r) ∧ Below w.heap.size w w' := by
  have HR0 := Aside0.mk hr0
  have HC0 := Aside0.mk hc0
  clear hr0 hc0
  have HB := Aside0.mk (Below.refl w.heap.size w)
  have H : (impl_text.l0 k (([] : List Int)) l0 (l0.length : Int) 0) = some r := h
  clear h
  obtain ⟨y264, hy264⟩ : ∃ y_ : List Int, y_ = (([] : List Int)) := ⟨_, rfl⟩
  replace H : (impl_text.l0 k y264 l0 (l0.length : Int) 0) = some r := by first | (rw [hy264]; with_reducible exact H) | (have H2_ := (Option.bind_some _ _).symm.trans H; rw [hy264]; with_reducible exact H2_) | (have H2_ := (Option.bind_some _ _).symm.trans H; with_reducible exact H2_) | with_reducible exact H | (rw [hy264]; exact H) | exact H
  have Ny264 := Aside0.mk hy264
  clear hy264
  have H' := Aside0.mk H
  clear H
  go_enter Try.func82, Try.ntmps82
  go_wp2_with (first | ((with_reducible refine gate_dst (N := 6) rfl ?_); refine Kd.R_lit (Kd.int .u8) _ 5 ?hg (N := 6) ?hd (xs := ([] : List Int)) (inner := []) (ok := fun _ => True) (okp := fun _ => True) ?hr ?hp (fun _ hk => hk) trivial (Below.refl _ _) (Nat.le_refl _) (by simp) ?_; (case hd => rfl); (case hg => rfl); (case hr => first | (go_simp; done) | (go_simp; rfl)); (case hp => exact (Reps.none _ _)); intro v265 w2 ho3 hb hg_ hnew_; clear hg_ hnew_; (first | rw [← Ny264.out] at ho3 | (simp only [Int.reduceToNat] at ho3; rw [← Ny264.out] at ho3)); have n0_ := Aside0.mk (Kd.R_lower ho3 (below_size (bB HB))); have n1_ := bsx hb HB; clear HB; have HO266 := n0_; have HB := n1_; clear n0_ n1_; clear hb ho3))
  go_loopg [3, 9] k (fun kq v3 v9 w' => ∃ (x3_1 : List Int) (x9_1 : Int), v9 = .int .i64 x9_1 ∧ Aside0 (impl_text.l0 kq x3_1 l0 (l0.length : Int) x9_1 = some r) ∧ Aside0 (kq ≤ k) ∧ Aside0 (Kd.R (Kd.int .u8) 5 w' w.heap.size (fun _ => True) v3 x3_1) ∧ Aside0 (Below w.heap.size w w'))
  case atStart => exact ⟨(y264), (0), (by first | rfl | (simp; done) | (simp [*]; done)), H', ⟨Nat.le_refl _⟩, ⟨by (with_reducible repeat (first | apply r_a | apply r_d | apply r_e)); exact HO266.out⟩, ⟨bB HB⟩⟩
  clear H'
  obtain ⟨x3_1, x9_1, rfl, HA, HK1, HO_3, HB⟩ := hrel
  rcases gk with _ | k1
  · exact absurd HA.out (by simp [impl_text.l0])
  have H := HA.out
  clear HA
  simp only [impl_text.l0] at H
  by_cases c4 : x9_1 < (l0.length : Int)
  rotate_left
  · rw [if_neg c4] at H
    have c4b0 : decide (x9_1 < (l0.length : Int)) = false := decide_eq_false c4
    clear c4
    obtain rfl := Option.some.inj H
    have hcv9 := own_string (P := Try.prog) Try.underlying55 Try.underlying5 Try.underlying9 (Kd.own_of_R HO_3.out)
    go_wp2
    go_ret
    exact ⟨by first | rfl | (simp [errW_none, errW_some] <;> rfl) | (simp [*, errW_none, errW_some] <;> rfl), bB HB⟩

  rw [if_pos c4] at H
  have c4b0 : decide (x9_1 < (l0.length : Int)) = true := decide_eq_true c4
  clear c4
  by_cases c5 : 0 ≤ x9_1
  rotate_left
  · rw [if_neg c5] at H
    exact absurd H (by simp)
  rw [if_pos c5] at H
  have c5b0 : decide (0 ≤ x9_1) = true := decide_eq_true c5
  clear c5
  by_cases c6 : x9_1 < (l0.length : Int)
  rotate_left
  · rw [if_neg c6] at H
    exact absurd H (by simp)
  rw [if_pos c6] at H
  have c6b0 : decide (x9_1 < (l0.length : Int)) = true := decide_eq_true c6
  clear c6
  by_cases c7 : x3_1.length < 140737488355328
  rotate_left
  · rw [if_neg c7] at H
    exact absurd H (by simp)
  rw [if_pos c7] at H
  have LMc7 := Aside0.mk c7
  clear c7
  obtain ⟨y268, hy268⟩ : ∃ y_ : List Int, y_ = (x3_1 ++ [(wrap64 (48 + (rd l0 x9_1))) % 256]) := ⟨_, rfl⟩
  replace H : (impl_text.l0 k1 y268 l0 (l0.length : Int) (wrap64 (x9_1 + 1))) = some r := by first | (rw [hy268]; with_reducible exact H) | (have H2_ := (Option.bind_some _ _).symm.trans H; rw [hy268]; with_reducible exact H2_) | (have H2_ := (Option.bind_some _ _).symm.trans H; with_reducible exact H2_) | with_reducible exact H | (rw [hy268]; exact H) | exact H
  have Ny268 := Aside0.mk hy268
  clear hy268
  have H' := Aside0.mk H
  clear H
  have p267 : 0 ≤ (x9_1 : Int) := of_decide_eq_true (by first | (with_reducible assumption) | assumption)
  have q267 : x9_1 < (l0.length : Int) := of_decide_eq_true (by first | (with_reducible assumption) | assumption)
  obtain ⟨ad267, e267, hx267_0⟩ := Kd.at_int HR0.out x9_1 p267 q267
  cases e267
  replace hx267_0 := (HB.out.cell (World.block_lt_of_cell? w _ hx267_0)).trans hx267_0
  replace p267 := eq_true p267
  replace q267 := eq_true q267
  go_wp2_with (first | ((with_reducible refine gate_builtin (b := .append) (xs := #[.tmp 13, .tmp 17]) rfl ?_); at_builtin; refine Kd.R_append (Kd.int .u8) (w0 := w) w.heap.size rfl (.tmp 13) (.tmp 17) 55 5 (.int .u8 0) 1 rfl Try.underlying55 info5 rfl (by decide) (by omega) u3 x3_1 ((wrap64 (48 + (rd l0 x9_1))) % 256) [.int .u8 ((wrap64 (48 + (rd l0 x9_1))) % 256)] (fun _ => True) (fun _ => False) rfl rfl ?aP (fun _ hk => hk.elim) ?aF ?aO ?aB ?aS ?aL ?_; (case aP => exact rfl); (case aB => exact (bB HB)); (case aF => exact (fun _ _ => trivial)); (case aO => exact (by (with_reducible repeat (first | apply r_a | apply r_d | apply r_e)); exact HO_3.out)); (case aS => exact (below_size (bB HB))); (case aL => have := LMc7.out; omega); intro v269 w8 ho hb hg hat; rw [← Ny268.out] at ho; have n0_ := Aside0.mk (hb); have n1_ := Aside0.mk (ho); clear HB; clear HO_3; have HB := n0_; have HO270 := n1_; clear n0_ n1_; clear ho hb hg hat))
  go_roundg k1
  case measure => have := HK1.out; omega
  case rel => exact ⟨(y268), (wrap64 (x9_1 + 1)), (by first | rfl | (simp; done) | (simp [*]; done)), H', ⟨by have := HK1.out; omega⟩, ⟨by (with_reducible repeat (first | apply r_a | apply r_d | apply r_e)); exact HO270.out⟩, ⟨bB HB⟩⟩
/-! ### impl_Gears_turned: function 44 -/
def impl_Gears_turned.l0 : Nat → Int → List Int → List Int → Int → Int → Int → Int → List (List Int) → Option (ByteArray)
  | 0, _, _, _, _, _, _, _, _ => none
  | k + 1, x3, x9, x18, x19, x20, x272000, x272001, x272002 => if x20 < x19 then (if 0 ≤ x20 then (if x20 < (x18.length : Int) then (if x20 < (x9.length : Int) then ((impl_around.f (wrap64 ((rd x9 x20) + (wrap64 ((rd x18 x20) * x3)))) x272001).bind fun t278 => (impl_Gears_turned.l0 k x3 (x9.set (x20 : Int).toNat t278) x18 x19 (wrap64 (x20 + 1)) x272000 x272001 x272002)) else (none)) else (none)) else (none)) else ((impl_text.f k x9).bind fun t280 => (some t280))
def impl_Gears_turned.f (k : Nat) (a0_0 : Int) (a0_1 : Int) (l0_2 : List (List Int)) (a1 : ByteArray) (a2 : Int) (a3 : Int) : Option (ByteArray) := (impl_digits.f k a1).bind fun t272 => (if 0 ≤ a2 then (if a2 < (l0_2.length : Int) then (impl_Gears_turned.l0 k a3 t272 (rd_L1 l0_2 a2) ((rd_L1 l0_2 a2).length : Int) 0 a0_0 a0_1 l0_2) else (none)) else (none))
theorem impl_Gears_turned.mono_l : ∀ k, (∀ y0 y1 y2 y3 y4 y5 y6 y7, LeO (impl_Gears_turned.l0 k y0 y1 y2 y3 y4 y5 y6 y7) (impl_Gears_turned.l0 (k + 1) y0 y1 y2 y3 y4 y5 y6 y7))
  | 0 => fun _ _ _ _ _ _ _ _ r h => by simp [impl_Gears_turned.l0] at h
  | k + 1 => by
    have ih0 := impl_Gears_turned.mono_l k
    · intro y0 y1 y2 y3 y4 y5 y6 y7
      unfold impl_Gears_turned.l0
      repeat' first
      | (with_reducible exact ih0 _ _ _ _ _ _ _ _)
      | (with_reducible exact impl_digits.mono _ _)
      | (with_reducible exact impl_text.mono _ _)
      | (with_reducible exact LeO.refl _)
      | (with_reducible exact LeO.none _)
      | (with_reducible refine LeO.ite ?_ ?_)
      | (with_reducible refine LeO.bind ?_ (fun _ => ?_))
      | exact ih0 _ _ _ _ _ _ _ _
      | exact impl_digits.mono _ _
      | exact impl_text.mono _ _
      | exact LeO.none _
      | refine LeO.ite ?_ ?_
      | refine LeO.bind ?_ (fun _ => ?_)
theorem impl_Gears_turned.mono : ∀ a0 a1 a2 a3 a4 a5 k, LeO (impl_Gears_turned.f k a0 a1 a2 a3 a4 a5) (impl_Gears_turned.f (k + 1) a0 a1 a2 a3 a4 a5) := by
  intro a0 a1 a2 a3 a4 a5 k
  have ih0 := impl_Gears_turned.mono_l k
  unfold impl_Gears_turned.f
  repeat' first
      | (with_reducible exact ih0 _ _ _ _ _ _ _ _)
      | (with_reducible exact impl_digits.mono _ _)
      | (with_reducible exact impl_text.mono _ _)
      | (with_reducible exact LeO.refl _)
      | (with_reducible exact LeO.none _)
      | (with_reducible refine LeO.ite ?_ ?_)
      | (with_reducible refine LeO.bind ?_ (fun _ => ?_))
      | exact ih0 _ _ _ _ _ _ _ _
      | exact impl_digits.mono _ _
      | exact impl_text.mono _ _
      | exact LeO.none _
      | refine LeO.ite ?_ ?_
      | refine LeO.bind ?_ (fun _ => ?_)
def impl_Gears_turned.T5 : Bool × List (List Nat × List Nat) := (true, [([], []), ([], []), ([], []), ([], []), ([2, 3], [2, 3]), ([4], [4]), ([], []), ([], []), ([6, 7], [6, 7]), ([5, 8], [5, 8]), ([], []), ([10], [10]), ([11], [11]), ([9, 12], [9, 12]), ([0, 1, 0, 1, 2, 3, 4, 5, 6, 7, 8, 9, 10, 11, 12, 13], [0, 1]), ([14, 13, 13, 0, 1, 2, 3, 4, 5, 6, 7, 8, 9, 10, 11, 12, 13], [13, 14])])
def impl_Gears_turned.B5 : List Nat := [0, 0, 0, 0, 12, 28, 0, 0, 192, 508, 0, 1024, 3072, 8188, 16383, 32767]
theorem impl_Gears_turned.tab5 : rtab .any (opsOf Try.f44 5) = impl_Gears_turned.T5 := by kernel_rfl
theorem impl_Gears_turned.bits5 : waitsOk impl_Gears_turned.T5.2 impl_Gears_turned.B5 = true := by kernel_rfl
set_option maxHeartbeats 8000000 in
set_option maxRecDepth 100000 in
theorem impl_Gears_turned.calls (k : Nat) (a0_0 : Int) (a0_1 : Int) (A0_2 : Option Addr) (c0_2 : Nat) (l0_2 : List (List Int)) (a1 : ByteArray) (a2 : Int) (a3 : Int) (r : ByteArray) (w : World) (hr0_2 : Kd.C (Kd.slice 3 (Kd.int .i64)) w A0_2 l0_2.length l0_2) (hc0_2 : l0_2.length ≤ c0_2) (h : impl_Gears_turned.f k a0_0 a0_1 l0_2 a1 a2 a3 = some r) :
    Calls Try.prog 44 #[.agg #[.int .i64 a0_0, .int .i64 a0_1, .slice A0_2 l0_2.length c0_2], .string a1, .int .i64 a2, .int .i64 a3] w fun e w' => e = .returned (.string r) ∧ Below w.heap.size w w' := by
  have hu33 := Try.underlying33
  have HR0_2 := Aside0.mk hr0_2
  have HC0_2 := Aside0.mk hc0_2
  clear hr0_2 hc0_2
  have HB := Aside0.mk (Below.refl w.heap.size w)
  have H : ((impl_digits.f k a1).bind fun t272 => (if 0 ≤ a2 then (if a2 < (l0_2.length : Int) then (impl_Gears_turned.l0 k a3 t272 (rd_L1 l0_2 a2) ((rd_L1 l0_2 a2).length : Int) 0 a0_0 a0_1 l0_2) else (none)) else (none))) = some r := h
  clear h
  replace H := Option.bind_eq_some_iff.mp H
  obtain ⟨t272, A50, H⟩ := H
  try dsimp only at H
  have A5 := Aside0.mk A50
  clear A50
  by_cases c6 : 0 ≤ a2
  rotate_left
  · rw [if_neg c6] at H
    exact absurd H (by simp)

  rw [if_pos c6] at H
  have c6b0 : decide (0 ≤ a2) = true := decide_eq_true c6
  clear c6
  by_cases c7 : a2 < (l0_2.length : Int)
  rotate_left
  · rw [if_neg c7] at H
    exact absurd H (by simp)
  rw [if_pos c7] at H
  have c7b0 : decide (a2 < (l0_2.length : Int)) = true := decide_eq_true c7
  clear c7
  have H' := Aside0.mk H
  clear H
  go_enter Try.func44, Try.ntmps44
  go_wp2_with (first | ((with_reducible refine gate_dst (N := 4) rfl ?_); refine box_event ?hg (N := 4) ?hd (cs := #[.int .i64 a0_0, .int .i64 a0_1, .slice A0_2 l0_2.length c0_2]) (t := 33) ?hr ?_; (case hd => rfl); (case hg => rfl); (case hr => first | (go_simp; done) | (go_simp; rfl)); intro gb271 hg w8 hbox hb; have n0_ := bsx hb HB; have n1_ := Aside0.mk (hbox); have n2_ := gwx hg HB; have n3_ := n2_; clear HB; have HB := n0_; have BK271 := n1_; have GW271 := n2_; have GE271 := n3_; clear n0_ n1_ n2_ n3_; clear hb hbox hg) | ((with_reducible refine gate_callee (f := 80) rfl ?_); refine goesL_ (some 13) rfl rfl Try.func80 (by kernel_rfl) rfl #[.string a1] rfl (by (try simp only [m_1, m_2, m_3]); first | done | rfl | (simp only [m_4, m_5]; rfl)) ?_; (with_reducible refine (impl_digits.calls k a1 t272 _ A5.out).mono ?_); rintro e w9 ⟨v273, rfl, ho0, hb⟩; refine ⟨_, rfl, ?_⟩; have n0_ := Aside0.mk (Kd.R_lower ho0 (below_size (bB HB))); replace BK271 := bbx hb BK271; have n2_ := bsx hb HB; clear HB; have HO274 := n0_; have HB := n2_; clear n0_ n2_; (try clear hb); (try clear hb2); (try clear hk); (try clear hi); (try clear ho0); have hcz10_0 : w9.cell? ⟨gb271, 0, none⟩ = some (.int .i64 a0_0) := (blk_cell BK271.out 0).trans rfl; have hcz10_1 : w9.cell? ⟨gb271, 1, none⟩ = some (.int .i64 a0_1) := (blk_cell BK271.out 1).trans rfl; have hcz10_2 : w9.cell? ⟨gb271, 2, none⟩ = some (.slice A0_2 l0_2.length c0_2) := (blk_cell BK271.out 2).trans rfl; have hfz10_0 := blk_frozen BK271.out 0; have hfz10_1 := blk_frozen BK271.out 1; have hfz10_2 := blk_frozen BK271.out 2; have p275 : 0 ≤ (a2 : Int) := of_decide_eq_true (by first | (with_reducible assumption) | assumption); have q275 : a2 < (l0_2.length : Int) := of_decide_eq_true (by first | (with_reducible assumption) | assumption); obtain ⟨ad275, A275_0, c275_0, e275, hx275_0, hl275_0, hi275_0⟩ := at_L1 HR0_2.out a2 p275 q275; cases e275; replace hx275_0 := (HB.out.cell (World.block_lt_of_cell? w _ hx275_0)).trans hx275_0; have HR275_0 := Aside0.mk hi275_0; have HC275_0 := Aside0.mk hl275_0; clear hi275_0 hl275_0; replace p275 := eq_true p275; replace q275 := eq_true q275))
  go_loopg [20] k (fun kq v20 w' => ∃ (x9_1 : List Int) (x20_1 : Int), v20 = .int .i64 x20_1 ∧ Aside0 (impl_Gears_turned.l0 kq a3 x9_1 (rd_L1 l0_2 a2) ((rd_L1 l0_2 a2).length : Int) x20_1 a0_0 a0_1 l0_2 = some r) ∧ Aside0 (kq ≤ k) ∧ Aside0 (Kd.R (Kd.int .i64) 3 w' w.heap.size (fun _ => True) v273 x9_1) ∧ Aside0 (w'.heap[gb271]? = some (.cells #[.int .i64 a0_0, .int .i64 a0_1, (.slice (some ad275) l0_2.length c0_2)] 33 (0, 0))) ∧ Aside0 (Below w.heap.size w w'))
  case atStart => refine ⟨(t272), (0), (by first | rfl | (simp; done) | (simp [*]; done)), H', ⟨Nat.le_refl _⟩, ⟨?_⟩, ⟨?_⟩, ⟨bB HB⟩⟩ <;> (with_reducible repeat (first | refine g_d ?_ _ | refine g_e ?_ | refine g_a ?_ _ | apply r_a | apply r_d | apply r_e)) <;> first | exact BK271.out | exact HO274.out
  clear H'
  try clear c6
  try clear c6b0
  try clear c7
  try clear c7b0
  try clear hcz10_0
  try clear hcz10_1
  try clear hcz10_2
  try clear hfz10_0
  try clear hfz10_1
  try clear hfz10_2
  try clear hx275_0
  try clear p275
  try clear q275
  obtain ⟨x9_1, x20_1, rfl, HA, HK1, HO_9, BK271, HB⟩ := hrel
  rcases gk with _ | k1
  · exact absurd HA.out (by simp [impl_Gears_turned.l0])
  have H := HA.out
  clear HA
  simp only [impl_Gears_turned.l0] at H
  by_cases c11 : x20_1 < ((rd_L1 l0_2 a2).length : Int)
  rotate_left
  · rw [if_neg c11] at H
    have c11b0 : decide (x20_1 < ((rd_L1 l0_2 a2).length : Int)) = false := decide_eq_false c11
    clear c11
    replace H := Option.bind_eq_some_iff.mp H
    obtain ⟨t280, A200, H⟩ := H
    try dsimp only at H
    have A20 := Aside0.mk A200
    clear A200
    obtain rfl := Option.some.inj H
    obtain ⟨Ao21, co21, eo21⟩ := Kd.R_slice HO_9.out
    subst eo21
    go_wp2_with (first | ((with_reducible refine gate_callee (f := 82) rfl ?_); refine goesL_ (some 42) rfl rfl Try.func82 (by kernel_rfl) rfl #[.slice Ao21 x9_1.length co21] rfl (by (try simp only [m_1, m_2, m_3]); first | done | rfl | (simp only [m_4, m_5]; rfl)) ?_; (with_reducible refine (impl_text.calls k1 _ _ x9_1 t280 _ ?side1 ?side2 A20.out).mono ?_); (case side1 => repeat (first | exact (Kd.R_reads' HO_9.out).2.2 | (with_reducible refine Kd.C_alloc ?_ _) | (with_reducible refine Kd.C_drewN ?_ _) | (with_reducible refine Kd.C_drew ?_))); (case side2 => exact (Kd.R_reads' HO_9.out).2.1); rintro e w22 ⟨rfl, hb⟩; refine ⟨_, rfl, ?_⟩; have n0_ := Aside0.mk (Kd.R_below (by (with_reducible repeat (first | apply r_a | apply r_d | apply r_e)); exact HO_9.out) hb); replace BK271 := bbx hb BK271; replace HB := bsx hb HB; clear HO_9; have HO_9 := n0_; clear n0_; (try clear hb); (try clear hb2); (try clear hk); (try clear hi)))
    go_ret
    exact ⟨by first | rfl | (simp [errW_none, errW_some] <;> rfl) | (simp [*, errW_none, errW_some] <;> rfl), bB HB⟩
  rw [if_pos c11] at H
  have c11b0 : decide (x20_1 < ((rd_L1 l0_2 a2).length : Int)) = true := decide_eq_true c11
  clear c11
  by_cases c12 : 0 ≤ x20_1
  rotate_left
  · rw [if_neg c12] at H
    exact absurd H (by simp)
  rw [if_pos c12] at H
  have c12b0 : decide (0 ≤ x20_1) = true := decide_eq_true c12
  clear c12
  by_cases c13 : x20_1 < ((rd_L1 l0_2 a2).length : Int)
  rotate_left
  · rw [if_neg c13] at H
    exact absurd H (by simp)
  rw [if_pos c13] at H
  have c13b0 : decide (x20_1 < ((rd_L1 l0_2 a2).length : Int)) = true := decide_eq_true c13
  clear c13
  by_cases c14 : x20_1 < (x9_1.length : Int)
  rotate_left
  · rw [if_neg c14] at H
    exact absurd H (by simp)
  rw [if_pos c14] at H
  have c14b0 : decide (x20_1 < (x9_1.length : Int)) = true := decide_eq_true c14
  clear c14
  replace H := Option.bind_eq_some_iff.mp H
  obtain ⟨t278, A150, H⟩ := H
  try dsimp only at H
  have A15 := Aside0.mk A150
  clear A150
  obtain ⟨y279, hy279⟩ : ∃ y_ : List Int, y_ = (x9_1.set (x20_1 : Int).toNat t278) := ⟨_, rfl⟩
  replace H : (impl_Gears_turned.l0 k1 a3 y279 (rd_L1 l0_2 a2) ((rd_L1 l0_2 a2).length : Int) (wrap64 (x20_1 + 1)) a0_0 a0_1 l0_2) = some r := by first | (rw [hy279]; with_reducible exact H) | (have H2_ := (Option.bind_some _ _).symm.trans H; rw [hy279]; with_reducible exact H2_) | (have H2_ := (Option.bind_some _ _).symm.trans H; with_reducible exact H2_) | with_reducible exact H | (rw [hy279]; exact H) | exact H
  have Ny279 := Aside0.mk hy279
  clear hy279
  have H' := Aside0.mk H
  clear H
  have p276 : 0 ≤ (x20_1 : Int) := of_decide_eq_true (by first | (with_reducible assumption) | assumption)
  have q276 : x20_1 < ((rd_L1 l0_2 a2).length : Int) := of_decide_eq_true (by first | (with_reducible assumption) | assumption)
  obtain ⟨ad276, e276, hx276_0⟩ := Kd.at_int HR275_0.out x20_1 p276 q276
  cases e276
  replace hx276_0 := (HB.out.cell (World.block_lt_of_cell? w _ hx276_0)).trans hx276_0
  replace p276 := eq_true p276
  replace q276 := eq_true q276
  try go_wp2
  have n0_ := Aside0.mk (r_e HO_9.out)
  have n1_ := Aside0.mk (g_e BK271.out)
  have n2_ := Aside0.mk (b_e HB.out)
  clear HO_9
  clear BK271
  clear HB
  have HO_9 := n0_
  have BK271 := n1_
  have HB := n2_
  clear n0_ n1_ n2_
  obtain ⟨Ao18, co18, eo18⟩ := Kd.R_slice HO_9.out
  (first | subst eo18 | (injection eo18 with f1_ f2_ f3_; have f4_ := f1_.symm; have f5_ := f3_.symm; clear f1_ f2_ f3_; subst f4_; subst f5_))
  have p277 : 0 ≤ (x20_1 : Int) := of_decide_eq_true (by first | (with_reducible assumption) | assumption)
  have q277 : x20_1 < (x9_1.length : Int) := of_decide_eq_true (by first | (with_reducible assumption) | assumption)
  obtain ⟨ad277, e277, hx277_0⟩ := Kd.at_int (Kd.R_reads' HO_9.out).2.2 x20_1 p277 q277
  cases e277
  replace p277 := eq_true p277
  replace q277 := eq_true q277
  refine start_ (n := 16) (S := fun w' => w'.cell? ⟨gb271, 0, none⟩ = some (.int .i64 a0_0) ∧ w'.cell? ⟨gb271, 1, none⟩ = some (.int .i64 a0_1) ∧ w'.cell? ⟨gb271, 2, none⟩ = some (.slice (some ad275) l0_2.length c0_2) ∧ w'.cell? (ad277.add (x20_1).toNat) = some (.int .i64 (rd x9_1 x20_1))) (ds := [15]) (bs_ 16 0) (by kernel_rfl) rfl rfl ⟨(blk_cell BK271.out 0).trans rfl, (blk_cell BK271.out 1).trans rfl, (blk_cell BK271.out 2).trans rfl, hx277_0⟩ (fun hHeld => ?_); refine with_tabW impl_Gears_turned.tab5 impl_Gears_turned.bits5 (fun HT_ HW_ => ?_)
  generalize wr.drew = w17 at HO_9 BK271 HB hx277_0 hHeld ⊢
  refine pua 0 25 (bs_ 16 1) HT_ ?_
  refine pua 1 26 (bs_ 16 3) HT_ ?_
  refine pua 2 27 (bs_ 16 7) HT_ ?_
  refine pua 3 28 (bs_ 16 15) HT_ ?_
  refine pua 4 29 (bs_ 16 31) HT_ ?_
  refine pua 6 31 (bs_ 16 95) HT_ ?_
  refine pua 7 32 (bs_ 16 223) HT_ ?_
  refine pua 8 33 (bs_ 16 479) HT_ ?_
  refine pua 10 35 (bs_ 16 1503) HT_ ?_
  refine pua 11 36 (bs_ 16 3551) HT_ ?_
  refine tk_ 5 30 (bs_ 16 3583) rfl rfl HT_ HW_ (by kernel_rfl) (fun _ _ _ h => h) (by rfl) hHeld (by rintro w' ⟨s0, s1, s2, s3⟩; go_simp; with_reducible rfl) (by simp only [Act.put, s_1, s_2, s_3, i64_w, i32_w]; rfl) ?_
  refine pua 9 34 (bs_ 16 4095) HT_ ?_
  refine tk_ 12 37 (bs_ 16 8191) rfl rfl HT_ HW_ (by kernel_rfl) (fun _ _ _ h => h) (by rfl) hHeld (by rintro w' ⟨s0, s1, s2, s3⟩; go_simp; with_reducible rfl) (by simp only [Act.put, s_1, s_2, s_3, i64_w, i32_w]; rfl) ?_
  refine one_ (i := 13) (N := some 38) (bs_ 16 16383) rfl rfl (one_of HT_.out (by kernel_rfl)) (by decide) (fun K hK => ?_)
  refine goes_ Try.func81 (by kernel_rfl) rfl #[.int .i64 (wrap64 ((rd x9_1 x20_1) + (wrap64 ((rd (rd_L1 l0_2 a2) x20_1) * a3)))), .int .i64 a0_1] (by rfl) rfl rfl (by (try simp only [m_1, m_2, m_3]); first | done | rfl | (simp only [m_4, m_5]; rfl)) ?_
  with_reducible refine (impl_around.calls (wrap64 ((rd x9_1 x20_1) + (wrap64 ((rd (rd_L1 l0_2 a2) x20_1) * a3)))) a0_1 t278 _ A15.out).mono ?_
  rintro e w' ⟨rfl, ⟨nd, rfl⟩⟩
  refine ⟨_, rfl, ?_⟩
  have p16 : 0 ≤ (x20_1 : Int) := of_decide_eq_true (by first | (with_reducible assumption) | assumption)
  have q16 : (x20_1 : Int) < ((x9_1.length : Int) : Int) := of_decide_eq_true (by first | (with_reducible assumption) | assumption)
  obtain ⟨go16, co16, eo16, gb16, gl16, cl16, HG16⟩ := Kd.R_form HO_9.out (by omega)
  (first | cases eo16 | (injection eo16 with ea_ en_ ec_; (first | subst ea_ | (injection ea_ with ea_; subst ea_)); subst ec_; clear en_))
  have GB16 := Aside0.mk gb16
  have GG16 := Aside0.mk HG16
  clear gb16 gl16 HG16
  (first | simp only [add_plain] at hx277_0 | skip)
  obtain ⟨hx16_0, hf16_0⟩ := Kd.R_celln 0 HO_9.out (x20_1 : Int) p16 q16
  replace p16 := eq_true p16
  replace q16 := eq_true q16
  have HP19 := Kd.R_putn HO_9.out (x20_1 : Int) t278
  rw [← Ny279.out] at HP19
  have HQ19 := Aside0.mk HP19
  clear HP19
  refine hK.out _ _ ⟨(blk_cell BK271.out 0).trans rfl, (blk_cell BK271.out 1).trans rfl, (blk_cell BK271.out 2).trans rfl, hHeld.2.2.2⟩ (fun hHeld => ?_)
  clear hK K
  refine norm_ (a' := ?_) ?_ ?_
  rotate_left
  · show Act.put _ (some 38) _ = _
    simp only [Act.put, s_1, s_2, s_3, i64_w, i32_w]
    rfl
  refine pua 14 39 (bs_ 16 32767) HT_ ?_
  refine last_ (i := 15) (N := none) (bs_ 16 65535) rfl rfl (one_of HT_.out (by kernel_rfl)) (by decide) (fun K hK => ?_)
  refine skip_ (w1 := ?_) (by rfl) rfl ?_ ?_
  rotate_left
  · go_simp
    rfl
  refine hK.out _ _ ?_
  clear hK K
  refine done_ (done_of HT_.out (by kernel_rfl)) ?_
  try go_wp2
  go_roundg k1
  case measure => have := HK1.out; omega
  case rel => exact ⟨(y279), (wrap64 (x20_1 + 1)), (by first | rfl | (simp; done) | (simp [*]; done)), H', ⟨by have := HK1.out; omega⟩, ⟨by (with_reducible repeat (first | apply r_a | apply r_d | apply r_e)); exact HQ19.out⟩, ⟨by (with_reducible repeat (first | refine g_d ?_ _ | refine g_e ?_ | refine g_a ?_ _)); refine blk_far ?_ (by have h_ := Kd.R_ne HO_9.out BK271.out (by decide); intro e_; exact h_ (by rw [e_]; rfl)) _; (with_reducible repeat (first | refine g_d ?_ _ | refine g_e ?_ | refine g_a ?_ _)); exact BK271.out⟩, ⟨by repeat (first | (with_reducible first | exact HB.out | apply b_a | apply b_d | apply b_e | refine b_s ?_ GB16.out | refine b_s ?_ GE271.out) | exact HB.out)⟩⟩
/-! ### slices_Repeat_int_int: function 78 (a text of our own) -/
def slices_Repeat_int_int.f (l0 : List Int) (a1 : Int) : Option (List Int) := if l0.length = 1 then (if 1 ≤ a1 then (if a1 ≤ 1000000 then some (List.replicate a1.toNat (rd l0 0)) else none) else none) else none
/-- The row while it is filled: m numbers lie there. -/
def slices_Repeat_int_int.rowL (x : Int) (n m : Nat) (rest : List Value) : List Value := List.replicate m (.int .i64 x) ++ (List.replicate (n - m) (.int .i64 0) ++ rest)
theorem slices_Repeat_int_int.rowL_len (x : Int) (n m : Nat) (rest : List Value) (h : m ≤ n) : (slices_Repeat_int_int.rowL x n m rest).length = n + rest.length := by
  unfold slices_Repeat_int_int.rowL; simp only [List.length_append, List.length_replicate]; omega
theorem slices_Repeat_int_int.splice_ (x : Int) (n m c : Nat) (rest : List Value) (h : m + c ≤ n) : splice (slices_Repeat_int_int.rowL x n m rest) m (List.replicate c (.int .i64 x)) = slices_Repeat_int_int.rowL x n (m + c) rest := by
  unfold splice slices_Repeat_int_int.rowL
  rw [List.take_left' (List.length_replicate ..), List.length_replicate]
  have e : (List.replicate m (Value.int .i64 x) ++ (List.replicate (n - m) (Value.int .i64 0) ++ rest)).drop (m + c) = List.replicate (n - (m + c)) (Value.int .i64 0) ++ rest := by
    rw [List.drop_append, List.length_replicate, List.drop_of_length_le (by rw [List.length_replicate]; omega), List.nil_append, show m + c - m = c by omega, List.drop_append, List.length_replicate, List.drop_replicate, show c - (n - m) = 0 by omega, List.drop_zero, show n - m - c = n - (m + c) by omega]
  rw [e, ← List.append_assoc, List.replicate_append_replicate]
theorem slices_Repeat_int_int.splice0 {x : Int} {n : Nat} {rest : List Value} (h : 1 ≤ n) : splice (slices_Repeat_int_int.rowL x n 0 rest) 0 [.int .i64 x] = slices_Repeat_int_int.rowL x n 1 rest := by
  have := slices_Repeat_int_int.splice_ x n 0 1 rest (by omega)
  rwa [Nat.zero_add] at this
theorem slices_Repeat_int_int.fit0 {x : Int} {n : Nat} {rest : List Value} (h : 1 ≤ n) : 0 + ([Value.int .i64 x]).length ≤ (slices_Repeat_int_int.rowL x n 0 rest).length := by
  rw [slices_Repeat_int_int.rowL_len _ _ _ _ (by omega)]; simp only [List.length_cons, List.length_nil]; omega
theorem slices_Repeat_int_int.src {w : World} {g n m c : Nat} {x : Int} {rest : List Value} (h : w.heap[g]? = some (.cells (slices_Repeat_int_int.rowL x n m rest).toArray 3 (0, 0))) (hc : c ≤ m) : ∀ j v, (List.replicate c (Value.int .i64 x))[j]? = some v → w.cell? (Addr.add ⟨g, 0, none⟩ j) = some v := by
  intro j v hv
  obtain ⟨hj, e⟩ := List.getElem?_eq_some_iff.mp hv
  rw [List.length_replicate] at hj
  rw [List.getElem_replicate] at e
  have e2 : Addr.add ⟨g, 0, none⟩ j = ⟨g, j, none⟩ := by by_cases q : j = 0 <;> simp [Addr.add, q]
  rw [e2, blk_cell h j, ← e]
  unfold slices_Repeat_int_int.rowL
  rw [List.getElem?_toArray, List.getElem?_append_left (by rw [List.length_replicate]; omega), List.getElem?_replicate, if_pos (by omega)]
theorem slices_Repeat_int_int.one {w : World} {A : Option Addr} {x : Int} (h : Kd.C (Kd.int .i64) w A 1 [x]) : ∃ ad, A = some ad ∧ ∀ j v, [Value.int .i64 x][j]? = some v → w.cell? (ad.add j) = some v := by
  obtain ⟨ad, e, hx⟩ := Kd.at_int h 0 (by omega) (by omega)
  refine ⟨ad, e, fun j v hv => ?_⟩
  cases j with
  | zero => rw [List.getElem?_cons_zero] at hv; cases hv; exact hx
  | succ j => simp at hv
theorem slices_Repeat_int_int.open_ {w0 w : World} {v : Value} {n : Nat} (h : Kd.R (Kd.int .i64) 3 w w0.heap.size (fun _ => True) v (List.replicate (n : Int).toNat 0)) (hn : 1 ≤ n) : ∃ (g cap : Nat) (rest : List Value), v = .slice (some ⟨g, 0, none⟩) n cap ∧ w0.heap.size ≤ g ∧ (∀ x : Int, w.heap[g]? = some (.cells (slices_Repeat_int_int.rowL x n 0 rest).toArray 3 (0, 0))) ∧ (n ≤ cap ∧ cap ≤ maxLen ∧ rest.length = cap - n) := by
  rw [Int.toNat_natCast] at h
  have own := Kd.own_of_R h
  rcases own.2 with ⟨hu, h0⟩ | ⟨g, cap, cur, hu, hle, hb, hlen, hmax, hsz, htake⟩
  · rw [List.length_replicate] at h0; omega
  rw [List.length_replicate] at hu hlen htake
  refine ⟨g, cap, cur.toList.drop n, hu, hle, fun x => ?_, hlen, hmax, by rw [List.length_drop, Array.length_toList]; omega⟩
  have e : slices_Repeat_int_int.rowL x n 0 (cur.toList.drop n) = cur.toList := by
    unfold slices_Repeat_int_int.rowL
    rw [Nat.mul_one] at htake
    have e2 : encs (Value.int .i64) (List.replicate n (0 : Int)) = List.replicate n (.int .i64 0) := by unfold encs; rw [List.map_replicate]
    rw [e2] at htake
    rw [List.replicate_zero, List.nil_append, Nat.sub_zero, ← htake, List.take_append_drop]
  rw [e, Array.toArray_toList]
  exact hb
theorem slices_Repeat_int_int.close_ {w0 w : World} {g cap n : Nat} {x : Int} {rest : List Value} (hge : w0.heap.size ≤ g) (hb : w.heap[g]? = some (.cells (slices_Repeat_int_int.rowL x n n rest).toArray 3 (0, 0))) (hc : n ≤ cap ∧ cap ≤ maxLen ∧ rest.length = cap - n) : Kd.R (Kd.int .i64) 3 w w0.heap.size (fun _ => True) (.slice (some ⟨g, 0, none⟩) n cap) (List.replicate n x) := by
  refine Kd.R_of_own (enc := Value.int .i64) ?_ (fun _ _ => trivial)
  rw [List.length_replicate]
  have e2 : encs (Value.int .i64) (List.replicate n x) = List.replicate n (.int .i64 x) := by unfold encs; rw [List.map_replicate]
  rw [e2]
  refine ⟨by rw [List.length_replicate, Nat.mul_one], .inr ⟨g, cap, _, rfl, hge, hb, hc.1, hc.2.1, ?_, ?_⟩⟩
  · rw [List.size_toArray, slices_Repeat_int_int.rowL_len _ _ _ _ (Nat.le_refl _)]; omega
  · unfold slices_Repeat_int_int.rowL
    rw [Nat.mul_one, List.toList_toArray, List.take_left' (List.length_replicate ..)]
set_option maxHeartbeats 8000000 in
set_option maxRecDepth 100000 in
theorem slices_Repeat_int_int.calls (A0 : Option Addr) (c0 : Nat) (l0 : List Int) (a1 : Int) (r : List Int) (w : World) (hr0 : Kd.C (Kd.int .i64) w A0 l0.length l0) (hc0 : l0.length ≤ c0) (h : slices_Repeat_int_int.f l0 a1 = some r) :
    Calls Try.prog 78 #[.slice A0 l0.length c0, .int .i64 a1] w fun e w' => ∃ v0_ : Value, e = .returned (v0_) ∧ Kd.R (Kd.int .i64) 3 w' w.heap.size (fun _ => True) v0_ r ∧ Below w.heap.size w w' := by
  unfold slices_Repeat_int_int.f at h
  by_cases q0 : l0.length = 1
  rotate_left
  · rw [if_neg q0] at h; exact absurd h (by simp)
  rw [if_pos q0] at h
  by_cases q1 : 1 ≤ a1
  rotate_left
  · rw [if_neg q1] at h; exact absurd h (by simp)
  rw [if_pos q1] at h
  by_cases q2 : a1 ≤ 1000000
  rotate_left
  · rw [if_neg q2] at h; exact absurd h (by simp)
  rw [if_pos q2] at h
  obtain rfl := Option.some.inj h
  clear h hc0
  obtain ⟨x, rfl⟩ : ∃ x, l0 = [x] := List.length_eq_one_iff.mp q0
  obtain ⟨n, rfl⟩ : ∃ n : Nat, a1 = (n : Int) := ⟨a1.toNat, by omega⟩
  have ex : rd [x] 0 = x := rfl
  rw [ex, Int.toNat_natCast]
  have LM := Aside0.mk (show 1 ≤ n ∧ n ≤ 1000000 by omega)
  have HR0 := Aside0.mk hr0
  have HSZ : Aside0 ((Try.prog.info? 3).map (·.size) = some 1) := ⟨by obtain ⟨i, hi, _, hs, _⟩ := info_parts info3; rw [hi]; simp [hs]⟩
  have HB := Aside0.mk (Below.refl w.heap.size w)
  have hw1 : IntKind.u64.wrap (n : Int) = (n : Int) := by simp [IntKind.wrap, IntKind.bits]; omega
  have hw2 : IntKind.i64.wrap (n : Int) = (n : Int) := (i64_w _).trans (by unfold wrap64; omega)
  have hn0 : decide ((n : Int) < 0) = false := decide_eq_false (by omega)
  have hn1 : decide ((n : Int) > 9223372036854775807) = false := decide_eq_false (by omega)
  have HM : ∀ W : World, Calls Try.prog 98 #[.int .u64 1, .int .u64 (n : Int)] W fun e w' => e = .returned (.tuple #[.int .u64 0, .int .u64 (n : Int)]) ∧ w' = W := fun W => by
    have := Try.bits_Mul 1 n (by decide) (by omega) W
    rw [show 1 * n / 18446744073709551616 = 0 by omega, show 1 * n % 18446744073709551616 = n by omega] at this
    exact this
  clear hr0 q0 q1 q2
  go_enter Try.func78, Try.ntmps78
  go_wp2_with (first | (go_at_call 98; (with_reducible refine (HM _).mono ?_); rintro e w2 ⟨rfl, hw_⟩; rw [hw_]; clear hw_) | ((with_reducible refine gate_dst (N := 30) rfl ?_); refine Kd.R_make (Kd.int .i64) _ 3 rfl (N := 30) rfl 40 _ _ rfl (n : Int) rfl rfl Try.underlying40 (.int .i64 0) 8 info3 rfl (by decide) (by omega) 0 (ok := fun _ => True) (okp := fun _ => True) rfl (fun _ hk => hk) trivial (Int.natCast_nonneg n) (by have := LM.out; rw [Int.toNat_natCast]; omega) (Below.refl _ _) (Nat.le_refl _) ?_; intro v30 w3 ho hb hg_ hnew_; clear hg_ hnew_; have hz_ := slices_Repeat_int_int.open_ (Kd.R_lower ho HB.out.size) LM.out.1; obtain ⟨g, cap, rest, e30, GE, BR, HCAP⟩ := hz_; subst e30; replace BR := Aside0.mk (BR x); replace GE := Aside0.mk GE; replace HCAP := Aside0.mk HCAP; replace HB := Aside0.mk (below_step HB.out hb); clear ho hb; have hs_ := Kd.C_below HR0.out HB.out; have hs2_ := slices_Repeat_int_int.one hs_; obtain ⟨ad, ea, hx⟩ := hs2_; subst ea; have HX := Aside0.mk hx; clear hs_ hx) | ((with_reducible refine gate_builtin (b := .copy) (xs := #[.tmp 31, .tmp 32]) rfl ?_); refine wpList_copy_splice rfl (.tmp 31) (.tmp 32) 40 40 rfl 3 Try.underlying40 HSZ.out (some ⟨g, 0, none⟩) (some ad) n cap 1 c0 rfl rfl g 0 (slices_Repeat_int_int.rowL x n 0 rest) 3 BR.out [.int .i64 x] (show 1 = Nat.min 1 n from (Nat.min_eq_left LM.out.1).symm) (fun _ => ⟨rfl, _, rfl, HX.out⟩) (slices_Repeat_int_int.fit0 LM.out.1) (fun v hv => by rw [List.mem_singleton.mp hv]; rfl) w.heap.size w HB.out GE.out ?_; intro w4 hg4 hb4; rw [slices_Repeat_int_int.splice0 LM.out.1] at hg4; replace BR := Aside0.mk (show w4.heap[g]? = some (.cells (slices_Repeat_int_int.rowL x n 1 rest).toArray 3 (0, 0)) from hg4); replace HB := Aside0.mk hb4; clear hg4 hb4))
  go_loopg [8] n (fun kq v8 w' => ∃ m : Nat, v8 = .int .i64 (m : Int) ∧ Aside0 (1 ≤ m ∧ m ≤ n ∧ n ≤ m + kq) ∧ Aside0 (kq ≤ n) ∧ Aside0 (w'.heap[g]? = some (.cells (slices_Repeat_int_int.rowL x n m rest).toArray 3 (0, 0))) ∧ Aside0 (Below w.heap.size w w'))
  case atStart => exact ⟨1, (by first | rfl | (simp; done) | (simp [*]; done)), ⟨Nat.le_refl _, LM.out.1, by omega⟩, ⟨Nat.le_refl _⟩, BR, HB⟩
  case round =>
    clear BR HB HX
    obtain ⟨m, rfl, HMM, HK1, BR, HB⟩ := hrel
    by_cases hm : (m : Int) < (n : Int)
    · have hmb : decide ((m : Int) < (n : Int)) = true := decide_eq_true hm
      have hmc : decide (m < n) = true := decide_eq_true (by omega)
      cases gk with
      | zero => exact absurd HMM.out.2.2 (by omega)
      | succ kq =>
      have HLT := Aside0.mk (show m < n by omega)
      obtain ⟨cc, hcc⟩ : ∃ c_ : Nat, c_ = Nat.min m (n - m) := ⟨_, rfl⟩
      have HCL := Aside0.mk (show cc ≤ m ∧ cc ≤ n - m ∧ 1 ≤ cc by have := HMM.out.1; rw [hcc]; exact ⟨Nat.min_le_left _ _, Nat.min_le_right _ _, by show 1 ≤ min m (n - m); omega⟩)
      have HCC := Aside0.mk HCL.out.1
      have HN : Aside0 ((List.replicate cc (Value.int .i64 x)).length = Nat.min m (n - m)) := ⟨by rw [List.length_replicate, hcc]⟩
      have HFIT : Aside0 (m + (List.replicate cc (Value.int .i64 x)).length ≤ (slices_Repeat_int_int.rowL x n m rest).length) := ⟨by rw [slices_Repeat_int_int.rowL_len _ _ _ _ HMM.out.2.1, List.length_replicate]; have := HCL.out; omega⟩
      have HONE : Aside0 (∀ v ∈ List.replicate cc (Value.int .i64 x), v.oneCell' = true) := ⟨fun v hv => by rw [List.eq_of_mem_replicate hv]; rfl⟩
      have HSP := Aside0.mk (slices_Repeat_int_int.splice_ x n m cc rest (by have := HCL.out; have := HLT.out; omega))
      have HAD : Aside0 (IntKind.i64.wrap ((m : Int) + (cc : Int)) = ((m + cc : Nat) : Int)) := ⟨(i64_w _).trans (by have := HCL.out; have := LM.out; unfold wrap64; omega)⟩
      obtain ⟨i0, hi0, _, hsz0, _⟩ := info_parts info3
      have hcf := cut_from (P := Try.prog) 40 3 .i64 Try.underlying40 hi0 1 hsz0 (some ⟨g, 0, none⟩) n cap (m : Int) (by omega) (by omega)
      have hct := cut_to (P := Try.prog) 40 3 .i64 Try.underlying40 hi0 (some ⟨g, 0, none⟩) n cap (m : Int) (by omega) (by omega) HCAP.out.1
      rw [Int.toNat_natCast] at hcf hct
      have ecf : (if cap = m then (some ⟨g, 0, none⟩ : Option Addr) else (some ⟨g, 0, none⟩ : Option Addr).map (·.add (m * 1))) = some ⟨g, m, none⟩ := by rw [if_neg (by have := HCAP.out.1; have := HLT.out; omega), Nat.mul_one]; have q_ : ¬ m = 0 := (by have := HMM.out.1; omega); simp [Addr.add, q_]
      rw [ecf] at hcf
      have had := HAD.out
      clear ecf hcc hi0 hsz0 hm
      go_wp2
      refine start_ (n := 10) (S := fun w' => True) (ds := []) #[false, false, false, false, false, false, false, false, false, false] (by kernel_rfl) rfl rfl trivial (fun hHeld => ?_)
      have hb := below_drew1 (Below.refl wr.heap.size wr)
      replace BR := Aside0.mk (blk_below BR.out hb)
      replace HB := Aside0.mk (below_step HB.out hb)
      clear hb
      have HPOS : Aside0 (0 < (List.replicate cc (Value.int .i64 x)).length → (some ⟨g, m, none⟩ : Option Addr) = some ⟨g, m, none⟩ ∧ ∃ ad : Addr, (some ⟨g, 0, none⟩ : Option Addr) = some ad ∧ ∀ j v, (List.replicate cc (Value.int .i64 x))[j]? = some v → wr.drew.cell? (ad.add j) = some v) := ⟨fun _ => ⟨rfl, _, rfl, slices_Repeat_int_int.src BR.out HCC.out⟩⟩
      generalize wr.drew = wd at BR HB HPOS hHeld ⊢
      refine pure_ (i := 0) (N := some 38) (v := ?_) (a' := ?_) #[true, false, false, false, false, false, false, false, false, false] rfl rfl (by kernel_rfl) (fun _ _ _ h => h) (Or.inl ⟨by rfl, ?_⟩) ?_ ?_
      rotate_left
      · intro w'
        go_simp
        with_reducible rfl
      rotate_left
      · simp only [Act.put, List.setIfInBounds_toArray, List.set_cons_zero, List.set_cons_succ, i64_w, i32_w]
        rfl
      refine pure_ (i := 1) (N := some 39) (v := ?_) (a' := ?_) #[true, true, false, false, false, false, false, false, false, false] rfl rfl (by kernel_rfl) (fun _ _ _ h => h) (Or.inl ⟨by rfl, ?_⟩) ?_ ?_
      rotate_left
      · intro w'
        go_simp
        with_reducible rfl
      rotate_left
      · simp only [Act.put, List.setIfInBounds_toArray, List.set_cons_zero, List.set_cons_succ, i64_w, i32_w]
        rfl
      refine pure_ (i := 2) (N := some 40) (v := ?_) (a' := ?_) #[true, true, true, false, false, false, false, false, false, false] rfl rfl (by kernel_rfl) (fun _ _ _ h => h) (Or.inl ⟨by rfl, ?_⟩) ?_ ?_
      rotate_left
      · intro w'
        go_simp
        with_reducible rfl
      rotate_left
      · simp only [Act.put, List.setIfInBounds_toArray, List.set_cons_zero, List.set_cons_succ, i64_w, i32_w]
        rfl
      refine pure_ (i := 3) (N := some 41) (v := ?_) (a' := ?_) #[true, true, true, true, false, false, false, false, false, false] rfl rfl (by kernel_rfl) (fun _ _ _ h => h) (Or.inl ⟨by rfl, ?_⟩) ?_ ?_
      rotate_left
      · intro w'
        go_simp
        with_reducible rfl
      rotate_left
      · simp only [Act.put, List.setIfInBounds_toArray, List.set_cons_zero, List.set_cons_succ, i64_w, i32_w]
        rfl
      refine pure_ (i := 4) (N := some 42) (v := ?_) (a' := ?_) #[true, true, true, true, true, false, false, false, false, false] rfl rfl (by kernel_rfl) (fun _ _ _ h => h) (Or.inl ⟨by rfl, ?_⟩) ?_ ?_
      rotate_left
      · intro w'
        go_simp
        with_reducible rfl
      rotate_left
      · simp only [Act.put, List.setIfInBounds_toArray, List.set_cons_zero, List.set_cons_succ, i64_w, i32_w]
        rfl
      refine pure_ (i := 5) (N := some 43) (v := ?_) (a' := ?_) #[true, true, true, true, true, true, false, false, false, false] rfl rfl (by kernel_rfl) (fun _ _ _ h => h) (Or.inl ⟨by rfl, ?_⟩) ?_ ?_
      rotate_left
      · intro w'
        go_simp
        with_reducible rfl
      rotate_left
      · simp only [Act.put, List.setIfInBounds_toArray, List.set_cons_zero, List.set_cons_succ, i64_w, i32_w]
        rfl
      refine pure_ (i := 6) (N := some 44) (v := ?_) (a' := ?_) #[true, true, true, true, true, true, true, false, false, false] rfl rfl (by kernel_rfl) (fun _ _ _ h => h) (Or.inl ⟨by rfl, ?_⟩) ?_ ?_
      rotate_left
      · intro w'
        go_simp
        with_reducible rfl
      rotate_left
      · simp only [Act.put, List.setIfInBounds_toArray, List.set_cons_zero, List.set_cons_succ, i64_w, i32_w]
        rfl
      refine one_ (i := 7) (N := some 45) #[true, true, true, true, true, true, true, true, false, false] rfl rfl (by kernel_rfl) (by decide) (fun K hK => ?_)
      refine step_copy_splice rfl (.tmp 41) (.tmp 44) 40 40 rfl 3 Try.underlying40 HSZ.out (some ⟨g, m, none⟩) (some ⟨g, 0, none⟩) (n - m) (cap - m) m cap rfl rfl g m (slices_Repeat_int_int.rowL x n m rest) 3 BR.out (List.replicate cc (.int .i64 x)) HN.out HPOS.out HFIT.out HONE.out w.heap.size w HB.out GE.out ?_
      intro w4 hg4 hb4
      rw [HSP.out] at hg4
      replace BR := Aside0.mk (show w4.heap[g]? = some (.cells (slices_Repeat_int_int.rowL x n (m + cc) rest).toArray 3 (0, 0)) from hg4)
      replace HB := Aside0.mk hb4
      clear hg4 hb4
      simp only [List.length_replicate]
      refine hK.out _ _ trivial (fun hHeld => ?_)
      clear hK K
      refine norm_ (a' := ?_) ?_ ?_
      rotate_left
      · show Act.put _ (some 45) _ = _
        simp only [Act.put, List.setIfInBounds_toArray, List.set_cons_zero, List.set_cons_succ, i64_w, i32_w]
        rfl
      refine pure_ (i := 8) (N := some 46) (v := ?_) (a' := ?_) #[true, true, true, true, true, true, true, true, true, false] rfl rfl (by kernel_rfl) (fun _ _ _ h => h) (Or.inl ⟨by rfl, ?_⟩) ?_ ?_
      rotate_left
      · intro w'
        go_simp
        with_reducible rfl
      rotate_left
      · simp only [Act.put, List.setIfInBounds_toArray, List.set_cons_zero, List.set_cons_succ, i64_w, i32_w]
        rfl
      refine pure_ (i := 9) (N := some 8) (v := ?_) (a' := ?_) #[true, true, true, true, true, true, true, true, true, true] rfl rfl (by kernel_rfl) (fun _ _ _ h => h) (Or.inl ⟨by rfl, ?_⟩) ?_ ?_
      rotate_left
      · intro w'
        go_simp
        with_reducible rfl
      rotate_left
      · simp only [Act.put, List.setIfInBounds_toArray, List.set_cons_zero, List.set_cons_succ, i64_w, i32_w]
        rfl
      refine done_ (by kernel_rfl) ?_
      try go_wp2
      go_roundg kq
      case measure => have := HK1.out; omega
      case rel => exact ⟨m + cc, (by first | rfl | (simp; done) | (simp [*]; done) | (rw [HAD.out])), ⟨by have := HMM.out; have := HCL.out; have := HLT.out; omega⟩, ⟨by have := HK1.out; omega⟩, BR, HB⟩
    · have hmb : decide ((m : Int) < (n : Int)) = false := decide_eq_false hm
      have hmc : decide (m < n) = false := decide_eq_false (by omega)
      obtain rfl : m = n := by have := HMM.out.2.1; omega
      clear hm
      go_wp2
      go_ret
      exact ⟨_, rfl, slices_Repeat_int_int.close_ GE.out BR.out HCAP.out, HB.out⟩


end Go.Proofs.Ytiacdekbleebjaa.P
