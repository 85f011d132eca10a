-- Texts of this session's own program (wip/dr.py), which runs the kit's printer.
import Derived.Test.YtihhiolflbieaaaPx0
import Derived.Test.YtihhiolflbieaaaPx1
import Derived.Test.YtihhiolflbieaaaPx2
import Derived.Test.YtihhiolflbieaaaPx5
import Derived.Test.YtihhiolflbieaaaPx62
import Derived.Test.YtihhiolflbieaaaPx71
namespace Go.Proofs.Ytihhiolflbieaaa.P
open Go.RowKit Go.Proofs.YtihhiolflbieaaaW.PrintWords Go.Proofs.YtihhiolflbieaaaW.PrintLast Go.Proofs.YtihhiolflbieaaaW.PrintMore
attribute [local go_sem] q_leq q_gtr q_geq max2_int min2_int max_two min_two max_three min_three max_four min_four   -- for this text's walks alone
set_option linter.unusedVariables false
set_option linter.unusedSimpArgs false

/-! ### impl_has: function 119 -/
def impl_has.l0 : Nat → List ByteArray → Int → Int → Int → Int → Option (Bool)
  | 0, _, _, _, _, _ => none
  | k + 1, x10, x11, x12, x519000, x519001 => if x12 < x11 then (if 0 ≤ x12 then (if x12 < (x10.length : Int) then ((impl_Lock_isCode.f k x519000 x519001 (rdOf ByteArray.empty x10 x12)).bind fun t521 => (if t521 = true then (impl_has.l0 k x10 x11 (wrap64 (x12 + 1)) x519000 x519001) else (some false))) else (none)) else (none)) else (some true)
def impl_has.f (k : Nat) (a0_0 : Int) (a0_1 : Int) (l1 : List ByteArray) : Option (Bool) := (impl_IsLock.f a0_0 a0_1).bind fun t519 => (if t519 = true then (impl_has.l0 k l1 (l1.length : Int) 0 a0_0 a0_1) else (some false))
theorem impl_has.mono_l : ∀ k, (∀ y0 y1 y2 y3 y4, LeO (impl_has.l0 k y0 y1 y2 y3 y4) (impl_has.l0 (k + 1) y0 y1 y2 y3 y4))
  | 0 => fun _ _ _ _ _ r h => by simp [impl_has.l0] at h
  | k + 1 => by
    have ih0 := impl_has.mono_l k
    · intro y0 y1 y2 y3 y4
      unfold impl_has.l0
      repeat' first
      | (with_reducible exact ih0 _ _ _ _ _)
      | (with_reducible exact impl_Lock_isCode.mono _ _ _ _)
      | (with_reducible exact LeO.refl _)
      | (with_reducible exact LeO.none _)
      | (with_reducible refine LeO.ite ?_ ?_)
      | (with_reducible refine LeO.bind ?_ (fun _ => ?_))
      | exact ih0 _ _ _ _ _
      | exact impl_Lock_isCode.mono _ _ _ _
      | exact LeO.none _
      | refine LeO.ite ?_ ?_
      | refine LeO.bind ?_ (fun _ => ?_)
theorem impl_has.mono : ∀ a0 a1 a2 k, LeO (impl_has.f k a0 a1 a2) (impl_has.f (k + 1) a0 a1 a2) := by
  intro a0 a1 a2 k
  have ih0 := impl_has.mono_l k
  unfold impl_has.f
  repeat' first
      | (with_reducible exact ih0 _ _ _ _ _)
      | (with_reducible exact impl_Lock_isCode.mono _ _ _ _)
      | (with_reducible exact LeO.refl _)
      | (with_reducible exact LeO.none _)
      | (with_reducible refine LeO.ite ?_ ?_)
      | (with_reducible refine LeO.bind ?_ (fun _ => ?_))
      | exact ih0 _ _ _ _ _
      | exact impl_Lock_isCode.mono _ _ _ _
      | exact LeO.none _
      | refine LeO.ite ?_ ?_
      | refine LeO.bind ?_ (fun _ => ?_)
set_option maxHeartbeats 8000000 in
set_option maxRecDepth 100000 in
theorem impl_has.calls (k : Nat) (a0_0 : Int) (a0_1 : Int) (A1 : Option Addr) (c1 : Nat) (l1 : List ByteArray) (r : Bool) (w : World) (hr1 : Kd.C Kd.string w A1 l1.length l1) (hc1 : l1.length ≤ c1) (h : impl_has.f k a0_0 a0_1 l1 = some r) :
    Calls Try.prog 119 #[.agg #[.int .i64 a0_0, .int .i64 a0_1], .slice A1 l1.length c1] w fun e w' => e = .returned (.bool r) ∧ Below w.heap.size w w' := by
  have hu28 := Try.underlying28
  have HR1 := Aside0.mk hr1
  have HC1 := Aside0.mk hc1
  clear hr1 hc1
  have HB := Aside0.mk (Below.refl w.heap.size w)
  have H : ((impl_IsLock.f a0_0 a0_1).bind fun t519 => (if t519 = true then (impl_has.l0 k l1 (l1.length : Int) 0 a0_0 a0_1) else (some false))) = some r := h
  clear h
  replace H := Option.bind_eq_some_iff.mp H
  obtain ⟨t519, A30, H⟩ := H
  try dsimp only at H
  have A3 := Aside0.mk A30
  clear A30
  by_cases c4 : t519 = true
  rotate_left
  · replace c4 := Bool.eq_false_iff.mpr c4
    subst c4
    rw [if_neg (show ¬ (false = true) by decide)] at H
    obtain rfl := Option.some.inj H
    go_enter Try.func119, Try.ntmps119
    go_wp2_with (first | ((with_reducible refine gate_dst (N := 2) rfl ?_); refine box_event ?hg (N := 2) ?hd (cs := #[.int .i64 a0_0, .int .i64 a0_1]) (t := 28) ?hr ?_; (case hd => rfl); (case hg => rfl); (case hr => first | (go_simp; done) | (go_simp; rfl)); intro gb518 hg w17 hbox hb; have n0_ := bsx hb HB; have n1_ := Aside0.mk (hbox); have n2_ := gwx hg HB; have n3_ := n2_; clear HB; have HB := n0_; have BK518 := n1_; have GW518 := n2_; have GE518 := n3_; clear n0_ n1_ n2_ n3_; clear hb hbox hg; have hcz18_0 := cz0 BK518; have hcz18_1 := cz1 BK518; have hfz18_0 := blk_frozen BK518.out 0; have hfz18_1 := blk_frozen BK518.out 1) | ((with_reducible refine gate_callee (f := 51) rfl ?_); refine goesL_ (some 8) rfl rfl Try.func51 (by kernel_rfl) rfl #[.agg #[.int .i64 a0_0, .int .i64 a0_1]] rfl (by (try simp only [m_1, m_2, m_3]); first | done | rfl | (simp only [m_4, m_5]; rfl)) ?_; (with_reducible refine (impl_IsLock.calls a0_0 a0_1 false _ A3.out).mono ?_); rintro e w19 ⟨rfl, hb⟩; refine ⟨_, rfl, ?_⟩; replace BK518 := bbx hb BK518; replace HB := bsx hb HB; skip; (try clear hb); (try clear hb2); (try clear hk); (try clear hi)))
    go_ret
    exact ⟨by first | rfl | (simp [errW_none, errW_some] <;> rfl) | (simp [*, errW_none, errW_some] <;> rfl), bB HB⟩

  subst c4
  rw [if_pos rfl] at H
  have H' := Aside0.mk H
  clear H
  go_enter Try.func119, Try.ntmps119
  go_wp2_with (first | ((with_reducible refine gate_dst (N := 2) rfl ?_); refine box_event ?hg (N := 2) ?hd (cs := #[.int .i64 a0_0, .int .i64 a0_1]) (t := 28) ?hr ?_; (case hd => rfl); (case hg => rfl); (case hr => first | (go_simp; done) | (go_simp; rfl)); intro gb518 hg w5 hbox hb; have n0_ := bsx hb HB; have n1_ := Aside0.mk (hbox); have n2_ := gwx hg HB; have n3_ := n2_; clear HB; have HB := n0_; have BK518 := n1_; have GW518 := n2_; have GE518 := n3_; clear n0_ n1_ n2_ n3_; clear hb hbox hg; have hcz6_0 := cz0 BK518; have hcz6_1 := cz1 BK518; have hfz6_0 := blk_frozen BK518.out 0; have hfz6_1 := blk_frozen BK518.out 1) | ((with_reducible refine gate_callee (f := 51) rfl ?_); refine goesL_ (some 8) rfl rfl Try.func51 (by kernel_rfl) rfl #[.agg #[.int .i64 a0_0, .int .i64 a0_1]] rfl (by (try simp only [m_1, m_2, m_3]); first | done | rfl | (simp only [m_4, m_5]; rfl)) ?_; (with_reducible refine (impl_IsLock.calls a0_0 a0_1 true _ A3.out).mono ?_); rintro e w7 ⟨rfl, hb⟩; refine ⟨_, rfl, ?_⟩; replace BK518 := bbx hb BK518; replace HB := bsx hb HB; skip; (try clear hb); (try clear hb2); (try clear hk); (try clear hi)))
  go_loopg [12] k (fun kq v12 w' => ∃ (x12_1 : Int), v12 = .int .i64 x12_1 ∧ Aside0 (impl_has.l0 kq l1 (l1.length : Int) x12_1 a0_0 a0_1 = some r) ∧ Aside0 (kq ≤ k) ∧ Aside0 (w'.heap[gb518]? = some (.cells #[.int .i64 a0_0, .int .i64 a0_1] 28 (0, 0))) ∧ Aside0 (Below w.heap.size w w'))
  case atStart => exact ⟨(0), (by first | rfl | (simp; done) | (simp [*]; done)), H', ⟨Nat.le_refl _⟩, ⟨bK BK518⟩, ⟨bB HB⟩⟩
  clear H'
  try clear c1
  try clear c4
  try clear hcz6_0
  try clear hcz6_1
  try clear hfz6_0
  try clear hfz6_1
  obtain ⟨x12_1, rfl, HA, HK1, BK518, HB⟩ := hrel
  rcases gk with _ | k1
  · exact absurd HA.out (by simp [impl_has.l0])
  have H := HA.out
  clear HA
  simp only [impl_has.l0] at H
  by_cases c8 : x12_1 < (l1.length : Int)
  rotate_left
  · rw [if_neg c8] at H
    have c8b0 : decide (x12_1 < (l1.length : Int)) = false := decide_eq_false c8
    clear c8
    obtain rfl := Option.some.inj H
    go_wp2
    go_ret
    exact ⟨by first | rfl | (simp [errW_none, errW_some] <;> rfl) | (simp [*, errW_none, errW_some] <;> rfl), bB HB⟩
  rw [if_pos c8] at H
  have c8b0 : decide (x12_1 < (l1.length : Int)) = true := decide_eq_true c8
  clear c8
  by_cases c9 : 0 ≤ x12_1
  rotate_left
  · rw [if_neg c9] at H
    exact absurd H (by simp)
  rw [if_pos c9] at H
  have c9b0 : decide (0 ≤ x12_1) = true := decide_eq_true c9
  clear c9
  by_cases c10 : x12_1 < (l1.length : Int)
  rotate_left
  · rw [if_neg c10] at H
    exact absurd H (by simp)
  rw [if_pos c10] at H
  have c10b0 : decide (x12_1 < (l1.length : Int)) = true := decide_eq_true c10
  clear c10
  replace H := Option.bind_eq_some_iff.mp H
  obtain ⟨t521, A110, H⟩ := H
  try dsimp only at H
  have A11 := Aside0.mk A110
  clear A110
  by_cases c12 : t521 = true
  rotate_left
  · replace c12 := Bool.eq_false_iff.mpr c12
    subst c12
    rw [if_neg (show ¬ (false = true) by decide)] at H
    obtain rfl := Option.some.inj H
    have p520 : 0 ≤ (x12_1 : Int) := of_decide_eq_true (by first | (with_reducible assumption) | assumption)
    have q520 : x12_1 < (l1.length : Int) := of_decide_eq_true (by first | (with_reducible assumption) | assumption)
    obtain ⟨ad520, e520, hx520_0⟩ := Kd.at_string HR1.out x12_1 p520 q520
    cases e520
    replace hx520_0 := (HB.out.cell (World.block_lt_of_cell? w _ hx520_0)).trans hx520_0
    replace p520 := eq_true p520
    replace q520 := eq_true q520
    have hcz15_0 := cz0 BK518
    have hcz15_1 := cz1 BK518
    have hfz15_0 := blk_frozen BK518.out 0
    have hfz15_1 := blk_frozen BK518.out 1
    go_wp2_with (first | ((with_reducible refine gate_callee (f := 105) rfl ?_); refine goesL_ (some 18) rfl rfl Try.func105 (by kernel_rfl) rfl #[.agg #[.int .i64 a0_0, .int .i64 a0_1], .string (rdOf ByteArray.empty l1 x12_1)] rfl (by (try simp only [m_1, m_2, m_3]); first | done | rfl | (simp only [m_4, m_5]; rfl)) ?_; (with_reducible refine (impl_Lock_isCode.calls k1 a0_0 a0_1 (rdOf ByteArray.empty l1 x12_1) false _ A11.out).mono ?_); rintro e w16 ⟨rfl, hb⟩; refine ⟨_, rfl, ?_⟩; replace BK518 := bbx hb BK518; replace HB := bsx hb HB; skip; (try clear hb); (try clear hb2); (try clear hk); (try clear hi)))
    go_ret
    exact ⟨by first | rfl | (simp [errW_none, errW_some] <;> rfl) | (simp [*, errW_none, errW_some] <;> rfl), bB HB⟩
  subst c12
  rw [if_pos rfl] at H
  have H' := Aside0.mk H
  clear H
  have p520 : 0 ≤ (x12_1 : Int) := of_decide_eq_true (by first | (with_reducible assumption) | assumption)
  have q520 : x12_1 < (l1.length : Int) := of_decide_eq_true (by first | (with_reducible assumption) | assumption)
  obtain ⟨ad520, e520, hx520_0⟩ := Kd.at_string HR1.out x12_1 p520 q520
  cases e520
  replace hx520_0 := (HB.out.cell (World.block_lt_of_cell? w _ hx520_0)).trans hx520_0
  replace p520 := eq_true p520
  replace q520 := eq_true q520
  have hcz13_0 := cz0 BK518
  have hcz13_1 := cz1 BK518
  have hfz13_0 := blk_frozen BK518.out 0
  have hfz13_1 := blk_frozen BK518.out 1
  go_wp2_with (first | ((with_reducible refine gate_callee (f := 105) rfl ?_); refine goesL_ (some 18) rfl rfl Try.func105 (by kernel_rfl) rfl #[.agg #[.int .i64 a0_0, .int .i64 a0_1], .string (rdOf ByteArray.empty l1 x12_1)] rfl (by (try simp only [m_1, m_2, m_3]); first | done | rfl | (simp only [m_4, m_5]; rfl)) ?_; (with_reducible refine (impl_Lock_isCode.calls k1 a0_0 a0_1 (rdOf ByteArray.empty l1 x12_1) true _ A11.out).mono ?_); rintro e w14 ⟨rfl, hb⟩; refine ⟨_, rfl, ?_⟩; replace BK518 := bbx hb BK518; replace HB := bsx hb HB; skip; (try clear hb); (try clear hb2); (try clear hk); (try clear hi)))
  go_roundg k1
  case measure => have := HK1.out; omega
  case rel => exact ⟨(wrap64 (x12_1 + 1)), (by first | rfl | (simp; done) | (simp [*]; done)), H', ⟨by have := HK1.out; omega⟩, ⟨bK BK518⟩, ⟨bB HB⟩⟩
/-! ### spec_deSmall: function 135 -/
def spec_deSmall.f (k : Nat) (a0_0 : Int) (a0_1 : Int) : Option (Bool) := (spec_whGood.f a0_0 a0_1).bind fun t1031 => (if t1031 = true then ((spec_whCount.f k a0_0 a0_1).bind fun t1032 => (some (decide (t1032 ≤ 1000)))) else (some false))
theorem spec_deSmall.mono : ∀ a0 a1 k, LeO (spec_deSmall.f k a0 a1) (spec_deSmall.f (k + 1) a0 a1) := by
  intro a0 a1 k
  unfold spec_deSmall.f
  repeat' first
      | (with_reducible exact spec_whCount.mono _ _ _)
      | (with_reducible exact LeO.refl _)
      | (with_reducible exact LeO.none _)
      | (with_reducible refine LeO.ite ?_ ?_)
      | (with_reducible refine LeO.bind ?_ (fun _ => ?_))
      | exact spec_whCount.mono _ _ _
      | exact LeO.none _
      | refine LeO.ite ?_ ?_
      | refine LeO.bind ?_ (fun _ => ?_)
set_option maxHeartbeats 8000000 in
set_option maxRecDepth 100000 in
theorem spec_deSmall.calls (k : Nat) (a0_0 : Int) (a0_1 : Int) (r : Bool) (w : World) (h : spec_deSmall.f k a0_0 a0_1 = some r) :
    Calls Try.prog 135 #[.agg #[.int .i64 a0_0, .int .i64 a0_1]] w fun e w' => e = .returned (.bool r) ∧ Below w.heap.size w w' := by
  have hu28 := Try.underlying28
  have HB := Aside0.mk (Below.refl w.heap.size w)
  have H : ((spec_whGood.f a0_0 a0_1).bind fun t1031 => (if t1031 = true then ((spec_whCount.f k a0_0 a0_1).bind fun t1032 => (some (decide (t1032 ≤ 1000)))) else (some false))) = some r := h
  clear h
  replace H := Option.bind_eq_some_iff.mp H
  obtain ⟨t1031, A20, H⟩ := H
  try dsimp only at H
  have A2 := Aside0.mk A20
  clear A20
  by_cases c3 : t1031 = true
  rotate_left
  · replace c3 := Bool.eq_false_iff.mpr c3
    subst c3
    rw [if_neg (show ¬ (false = true) by decide)] at H
    obtain rfl := Option.some.inj H
    go_enter Try.func135, Try.ntmps135
    go_wp2_with (first | ((with_reducible refine gate_dst (N := 1) rfl ?_); refine box_event ?hg (N := 1) ?hd (cs := #[.int .i64 a0_0, .int .i64 a0_1]) (t := 28) ?hr ?_; (case hd => rfl); (case hg => rfl); (case hr => first | (go_simp; done) | (go_simp; rfl)); intro gb1030 hg w10 hbox hb; have n0_ := bsx hb HB; have n1_ := Aside0.mk (hbox); have n2_ := gwx hg HB; have n3_ := n2_; clear HB; have HB := n0_; have BK1030 := n1_; have GW1030 := n2_; have GE1030 := n3_; clear n0_ n1_ n2_ n3_; clear hb hbox hg; have hcz11_0 := cz0 BK1030; have hcz11_1 := cz1 BK1030; have hfz11_0 := blk_frozen BK1030.out 0; have hfz11_1 := blk_frozen BK1030.out 1) | ((with_reducible refine gate_callee (f := 49) rfl ?_); refine goesL_ (some 4) rfl rfl Try.func49 (by kernel_rfl) rfl #[.agg #[.int .i64 a0_0, .int .i64 a0_1]] rfl (by (try simp only [m_1, m_2, m_3]); first | done | rfl | (simp only [m_4, m_5]; rfl)) ?_; (with_reducible refine (spec_whGood.calls a0_0 a0_1 false _ A2.out).mono ?_); rintro e w12 ⟨rfl, hb⟩; refine ⟨_, rfl, ?_⟩; replace BK1030 := bbx hb BK1030; replace HB := bsx hb HB; skip; (try clear hb); (try clear hb2); (try clear hk); (try clear hi)))
    go_ret
    exact ⟨by first | rfl | (simp [errW_none, errW_some] <;> rfl) | (simp [*, errW_none, errW_some] <;> rfl), bB HB⟩

  subst c3
  rw [if_pos rfl] at H
  replace H := Option.bind_eq_some_iff.mp H
  obtain ⟨t1032, A40, H⟩ := H
  try dsimp only at H
  have A4 := Aside0.mk A40
  clear A40
  obtain rfl := Option.some.inj H
  go_enter Try.func135, Try.ntmps135
  go_wp2_with (first | ((with_reducible refine gate_dst (N := 1) rfl ?_); refine box_event ?hg (N := 1) ?hd (cs := #[.int .i64 a0_0, .int .i64 a0_1]) (t := 28) ?hr ?_; (case hd => rfl); (case hg => rfl); (case hr => first | (go_simp; done) | (go_simp; rfl)); intro gb1030 hg w5 hbox hb; have n0_ := bsx hb HB; have n1_ := Aside0.mk (hbox); have n2_ := gwx hg HB; have n3_ := n2_; clear HB; have HB := n0_; have BK1030 := n1_; have GW1030 := n2_; have GE1030 := n3_; clear n0_ n1_ n2_ n3_; clear hb hbox hg; have hcz6_0 := cz0 BK1030; have hcz6_1 := cz1 BK1030; have hfz6_0 := blk_frozen BK1030.out 0; have hfz6_1 := blk_frozen BK1030.out 1) | ((with_reducible refine gate_callee (f := 49) rfl ?_); refine goesL_ (some 4) rfl rfl Try.func49 (by kernel_rfl) rfl #[.agg #[.int .i64 a0_0, .int .i64 a0_1]] rfl (by (try simp only [m_1, m_2, m_3]); first | done | rfl | (simp only [m_4, m_5]; rfl)) ?_; (with_reducible refine (spec_whGood.calls a0_0 a0_1 true _ A2.out).mono ?_); rintro e w7 ⟨rfl, hb⟩; refine ⟨_, rfl, ?_⟩; replace BK1030 := bbx hb BK1030; replace HB := bsx hb HB; skip; (try clear hb); (try clear hb2); (try clear hk); (try clear hi); have hcz8_0 := cz0 BK1030; have hcz8_1 := cz1 BK1030; have hfz8_0 := blk_frozen BK1030.out 0; have hfz8_1 := blk_frozen BK1030.out 1) | (go_at_call 94; (with_reducible refine (spec_whCount.calls k a0_0 a0_1 t1032 _ A4.out).mono ?_); rintro e w9 ⟨rfl, hb⟩; replace BK1030 := bbx hb BK1030; replace HB := bsx hb HB; skip; (try clear hb); (try clear hb2); (try clear hk); (try clear hi)))
  go_ret
  exact ⟨by first | rfl | (simp [errW_none, errW_some] <;> rfl) | (simp [*, errW_none, errW_some] <;> rfl), bB HB⟩
/-! ### spec_deList: function 136 -/
def spec_deList.l0 : Nat → List ByteArray → List ByteArray → Int → Int → Int → Int → Option (Bool)
  | 0, _, _, _, _, _, _ => none
  | k + 1, x1, x10, x11, x12, x1034000, x1034001 => if x12 < x11 then (if 0 ≤ x12 then (if x12 < (x10.length : Int) then ((spec_whCode.f k x1034000 x1034001 (rdOf ByteArray.empty x10 x12)).bind fun t1035 => (if t1035 = true then (if x12 > 0 then (if 0 ≤ (wrap64 (x12 - 1)) then (if (wrap64 (x12 - 1)) < (x1.length : Int) then (if ((Op.bytesLess ((rdOf ByteArray.empty x1 (wrap64 (x12 - 1))).toList) ((rdOf ByteArray.empty x10 x12).toList)) = true) then (spec_deList.l0 k x1 x10 x11 (wrap64 (x12 + 1)) x1034000 x1034001) else (some false)) else (none)) else (none)) else (spec_deList.l0 k x1 x10 x11 (wrap64 (x12 + 1)) x1034000 x1034001)) else (some false))) else (none)) else (none)) else (some true)
def spec_deList.f (k : Nat) (a0_0 : Int) (a0_1 : Int) (l1 : List ByteArray) : Option (Bool) := if (l1.length : Int) > 60 then (some false) else (spec_deList.l0 k l1 l1 (l1.length : Int) 0 a0_0 a0_1)
theorem spec_deList.mono_l : ∀ k, (∀ y0 y1 y2 y3 y4 y5, LeO (spec_deList.l0 k y0 y1 y2 y3 y4 y5) (spec_deList.l0 (k + 1) y0 y1 y2 y3 y4 y5))
  | 0 => fun _ _ _ _ _ _ r h => by simp [spec_deList.l0] at h
  | k + 1 => by
    have ih0 := spec_deList.mono_l k
    · intro y0 y1 y2 y3 y4 y5
      unfold spec_deList.l0
      repeat' first
      | (with_reducible exact ih0 _ _ _ _ _ _)
      | (with_reducible exact spec_whCode.mono _ _ _ _)
      | (with_reducible exact LeO.refl _)
      | (with_reducible exact LeO.none _)
      | (with_reducible refine LeO.ite ?_ ?_)
      | (with_reducible refine LeO.bind ?_ (fun _ => ?_))
      | exact ih0 _ _ _ _ _ _
      | exact spec_whCode.mono _ _ _ _
      | exact LeO.none _
      | refine LeO.ite ?_ ?_
      | refine LeO.bind ?_ (fun _ => ?_)
theorem spec_deList.mono : ∀ a0 a1 a2 k, LeO (spec_deList.f k a0 a1 a2) (spec_deList.f (k + 1) a0 a1 a2) := by
  intro a0 a1 a2 k
  have ih0 := spec_deList.mono_l k
  unfold spec_deList.f
  repeat' first
      | (with_reducible exact ih0 _ _ _ _ _ _)
      | (with_reducible exact spec_whCode.mono _ _ _ _)
      | (with_reducible exact LeO.refl _)
      | (with_reducible exact LeO.none _)
      | (with_reducible refine LeO.ite ?_ ?_)
      | (with_reducible refine LeO.bind ?_ (fun _ => ?_))
      | exact ih0 _ _ _ _ _ _
      | exact spec_whCode.mono _ _ _ _
      | exact LeO.none _
      | refine LeO.ite ?_ ?_
      | refine LeO.bind ?_ (fun _ => ?_)
set_option maxHeartbeats 8000000 in
set_option maxRecDepth 100000 in
theorem spec_deList.calls (k : Nat) (a0_0 : Int) (a0_1 : Int) (A1 : Option Addr) (c1 : Nat) (l1 : List ByteArray) (r : Bool) (w : World) (hr1 : Kd.C Kd.string w A1 l1.length l1) (hc1 : l1.length ≤ c1) (h : spec_deList.f k a0_0 a0_1 l1 = some r) :
    Calls Try.prog 136 #[.agg #[.int .i64 a0_0, .int .i64 a0_1], .slice A1 l1.length c1] w fun e w' => e = .returned (.bool r) ∧ Below w.heap.size w w' := by
  have hu28 := Try.underlying28
  have HR1 := Aside0.mk hr1
  have HC1 := Aside0.mk hc1
  clear hr1 hc1
  have HB := Aside0.mk (Below.refl w.heap.size w)
  have H : (if (l1.length : Int) > 60 then (some false) else (spec_deList.l0 k l1 l1 (l1.length : Int) 0 a0_0 a0_1)) = some r := h
  clear h
  by_cases c3 : (l1.length : Int) > 60
  · rw [if_pos c3] at H
    have c3b0 : decide (60 < (l1.length : Int)) = true := decide_eq_true c3
    have c3b1 : decide (60 < l1.length) = true := decide_eq_true (by omega)
    clear c3
    obtain rfl := Option.some.inj H
    go_enter Try.func136, Try.ntmps136
    go_wp2_with (first | ((with_reducible refine gate_dst (N := 2) rfl ?_); refine box_event ?hg (N := 2) ?hd (cs := #[.int .i64 a0_0, .int .i64 a0_1]) (t := 28) ?hr ?_; (case hd => rfl); (case hg => rfl); (case hr => first | (go_simp; done) | (go_simp; rfl)); intro gb1033 hg w4 hbox hb; have n0_ := bsx hb HB; have n1_ := Aside0.mk (hbox); have n2_ := gwx hg HB; have n3_ := n2_; clear HB; have HB := n0_; have BK1033 := n1_; have GW1033 := n2_; have GE1033 := n3_; clear n0_ n1_ n2_ n3_; clear hb hbox hg))
    go_ret
    exact ⟨by first | rfl | (simp [errW_none, errW_some] <;> rfl) | (simp [*, errW_none, errW_some] <;> rfl), bB HB⟩
  rw [if_neg c3] at H
  have c3b0 : decide (60 < (l1.length : Int)) = false := decide_eq_false c3
  have c3b1 : decide (60 < l1.length) = false := decide_eq_false (by omega)
  clear c3
  have H' := Aside0.mk H
  clear H
  go_enter Try.func136, Try.ntmps136
  go_wp2_with (first | ((with_reducible refine gate_dst (N := 2) rfl ?_); refine box_event ?hg (N := 2) ?hd (cs := #[.int .i64 a0_0, .int .i64 a0_1]) (t := 28) ?hr ?_; (case hd => rfl); (case hg => rfl); (case hr => first | (go_simp; done) | (go_simp; rfl)); intro gb1033 hg w5 hbox hb; have n0_ := bsx hb HB; have n1_ := Aside0.mk (hbox); have n2_ := gwx hg HB; have n3_ := n2_; clear HB; have HB := n0_; have BK1033 := n1_; have GW1033 := n2_; have GE1033 := n3_; clear n0_ n1_ n2_ n3_; clear hb hbox hg))
  go_loopg [12] k (fun kq v12 w' => ∃ (x12_1 : Int), v12 = .int .i64 x12_1 ∧ Aside0 (spec_deList.l0 kq l1 l1 (l1.length : Int) x12_1 a0_0 a0_1 = some r) ∧ Aside0 (kq ≤ k) ∧ Aside0 (w'.heap[gb1033]? = some (.cells #[.int .i64 a0_0, .int .i64 a0_1] 28 (0, 0))) ∧ Aside0 (Below w.heap.size w w'))
  case atStart => exact ⟨(0), (by first | rfl | (simp; done) | (simp [*]; done)), H', ⟨Nat.le_refl _⟩, ⟨bK BK1033⟩, ⟨bB HB⟩⟩
  clear H'
  try clear c1
  try clear c3
  try clear c3b0
  try clear c3b1
  obtain ⟨x12_1, rfl, HA, HK1, BK1033, HB⟩ := hrel
  rcases gk with _ | k1
  · exact absurd HA.out (by simp [spec_deList.l0])
  have H := HA.out
  clear HA
  simp only [spec_deList.l0] at H
  by_cases c6 : x12_1 < (l1.length : Int)
  rotate_left
  · rw [if_neg c6] at H
    have c6b0 : decide (x12_1 < (l1.length : Int)) = false := decide_eq_false c6
    clear c6
    obtain rfl := Option.some.inj H
    go_wp2
    go_ret
    exact ⟨by first | rfl | (simp [errW_none, errW_some] <;> rfl) | (simp [*, errW_none, errW_some] <;> rfl), bB HB⟩

  rw [if_pos c6] at H
  have c6b0 : decide (x12_1 < (l1.length : Int)) = true := decide_eq_true c6
  clear c6
  by_cases c7 : 0 ≤ x12_1
  rotate_left
  · rw [if_neg c7] at H
    exact absurd H (by simp)
  rw [if_pos c7] at H
  have c7b0 : decide (0 ≤ x12_1) = true := decide_eq_true c7
  clear c7
  by_cases c8 : x12_1 < (l1.length : Int)
  rotate_left
  · rw [if_neg c8] at H
    exact absurd H (by simp)
  rw [if_pos c8] at H
  have c8b0 : decide (x12_1 < (l1.length : Int)) = true := decide_eq_true c8
  clear c8
  replace H := Option.bind_eq_some_iff.mp H
  obtain ⟨t1035, A90, H⟩ := H
  try dsimp only at H
  have A9 := Aside0.mk A90
  clear A90
  by_cases c10 : t1035 = true
  rotate_left
  · replace c10 := Bool.eq_false_iff.mpr c10
    subst c10
    rw [if_neg (show ¬ (false = true) by decide)] at H
    obtain rfl := Option.some.inj H
    have p1034 : 0 ≤ (x12_1 : Int) := of_decide_eq_true (by first | (with_reducible assumption) | assumption)
    have q1034 : x12_1 < (l1.length : Int) := of_decide_eq_true (by first | (with_reducible assumption) | assumption)
    obtain ⟨ad1034, e1034, hx1034_0⟩ := Kd.at_string HR1.out x12_1 p1034 q1034
    cases e1034
    replace hx1034_0 := (HB.out.cell (World.block_lt_of_cell? w _ hx1034_0)).trans hx1034_0
    replace p1034 := eq_true p1034
    replace q1034 := eq_true q1034
    have hcz22_0 := cz0 BK1033
    have hcz22_1 := cz1 BK1033
    have hfz22_0 := blk_frozen BK1033.out 0
    have hfz22_1 := blk_frozen BK1033.out 1
    go_wp2_with (first | ((with_reducible refine gate_callee (f := 103) rfl ?_); refine goesL_ (some 19) rfl rfl Try.func103 (by kernel_rfl) rfl #[.agg #[.int .i64 a0_0, .int .i64 a0_1], .string (rdOf ByteArray.empty l1 x12_1)] rfl (by (try simp only [m_1, m_2, m_3]); first | done | rfl | (simp only [m_4, m_5]; rfl)) ?_; (with_reducible refine (spec_whCode.calls k1 a0_0 a0_1 (rdOf ByteArray.empty l1 x12_1) false _ A9.out).mono ?_); rintro e w23 ⟨rfl, hb⟩; refine ⟨_, rfl, ?_⟩; replace BK1033 := bbx hb BK1033; replace HB := bsx hb HB; skip; (try clear hb); (try clear hb2); (try clear hk); (try clear hi)))
    go_ret
    exact ⟨by first | rfl | (simp [errW_none, errW_some] <;> rfl) | (simp [*, errW_none, errW_some] <;> rfl), bB HB⟩
  subst c10
  rw [if_pos rfl] at H
  by_cases c11 : x12_1 > 0
  rotate_left
  · rw [if_neg c11] at H
    have c11b0 : decide (0 < x12_1) = false := decide_eq_false c11
    clear c11
    have H' := Aside0.mk H
    clear H
    have p1034 : 0 ≤ (x12_1 : Int) := of_decide_eq_true (by first | (with_reducible assumption) | assumption)
    have q1034 : x12_1 < (l1.length : Int) := of_decide_eq_true (by first | (with_reducible assumption) | assumption)
    obtain ⟨ad1034, e1034, hx1034_0⟩ := Kd.at_string HR1.out x12_1 p1034 q1034
    cases e1034
    replace hx1034_0 := (HB.out.cell (World.block_lt_of_cell? w _ hx1034_0)).trans hx1034_0
    replace p1034 := eq_true p1034
    replace q1034 := eq_true q1034
    have hcz20_0 := cz0 BK1033
    have hcz20_1 := cz1 BK1033
    have hfz20_0 := blk_frozen BK1033.out 0
    have hfz20_1 := blk_frozen BK1033.out 1
    go_wp2_with (first | ((with_reducible refine gate_callee (f := 103) rfl ?_); refine goesL_ (some 19) rfl rfl Try.func103 (by kernel_rfl) rfl #[.agg #[.int .i64 a0_0, .int .i64 a0_1], .string (rdOf ByteArray.empty l1 x12_1)] rfl (by (try simp only [m_1, m_2, m_3]); first | done | rfl | (simp only [m_4, m_5]; rfl)) ?_; (with_reducible refine (spec_whCode.calls k1 a0_0 a0_1 (rdOf ByteArray.empty l1 x12_1) true _ A9.out).mono ?_); rintro e w21 ⟨rfl, hb⟩; refine ⟨_, rfl, ?_⟩; replace BK1033 := bbx hb BK1033; replace HB := bsx hb HB; skip; (try clear hb); (try clear hb2); (try clear hk); (try clear hi)))
    go_roundg k1
    case measure => have := HK1.out; omega
    case rel => exact ⟨(wrap64 (x12_1 + 1)), (by first | rfl | (simp; done) | (simp [*]; done)), H', ⟨by have := HK1.out; omega⟩, ⟨bK BK1033⟩, ⟨bB HB⟩⟩
  rw [if_pos c11] at H
  have c11b0 : decide (0 < x12_1) = true := decide_eq_true c11
  clear c11
  obtain ⟨ji12, hji12⟩ : ∃ j_ : Int, (wrap64 (x12_1 - 1)) = j_ := ⟨_, rfl⟩
  replace H : (if 0 ≤ (ji12) then (if (ji12) < (l1.length : Int) then (if ((Op.bytesLess ((rdOf ByteArray.empty l1 (ji12)).toList) ((rdOf ByteArray.empty l1 x12_1).toList)) = true) then (spec_deList.l0 k1 l1 l1 (l1.length : Int) (wrap64 (x12_1 + 1)) a0_0 a0_1) else (some false)) else (none)) else (none)) = some r := by first | (rw [hji12] at H; exact H) | (simp only [hji12] at H ⊢; exact H)
  (try rw [hji12] at A9)
  have hji12w : (IntKind.i64.wrap (x12_1 - 1)) = ji12 := (i64_w _).trans hji12
  by_cases c13 : 0 ≤ (ji12)
  rotate_left
  · rw [if_neg c13] at H
    exact absurd H (by simp)
  rw [if_pos c13] at H
  have c13b0 : decide (0 ≤ (ji12)) = true := decide_eq_true c13
  clear c13
  by_cases c14 : (ji12) < (l1.length : Int)
  rotate_left
  · rw [if_neg c14] at H
    exact absurd H (by simp)
  rw [if_pos c14] at H
  have c14b0 : decide ((ji12) < (l1.length : Int)) = true := decide_eq_true c14
  clear c14
  by_cases c15 : ((Op.bytesLess ((rdOf ByteArray.empty l1 (ji12)).toList) ((rdOf ByteArray.empty l1 x12_1).toList)) = true)
  rotate_left
  · rw [if_neg c15] at H
    have c15b0 : (Op.bytesLess ((rdOf ByteArray.empty l1 (ji12)).toList) ((rdOf ByteArray.empty l1 x12_1).toList)) = false := by simpa using c15
    clear c15
    obtain rfl := Option.some.inj H
    have p1034 : 0 ≤ (x12_1 : Int) := of_decide_eq_true (by first | (with_reducible assumption) | assumption)
    have q1034 : x12_1 < (l1.length : Int) := of_decide_eq_true (by first | (with_reducible assumption) | assumption)
    obtain ⟨ad1034, e1034, hx1034_0⟩ := Kd.at_string HR1.out x12_1 p1034 q1034
    cases e1034
    replace hx1034_0 := (HB.out.cell (World.block_lt_of_cell? w _ hx1034_0)).trans hx1034_0
    replace p1034 := eq_true p1034
    replace q1034 := eq_true q1034
    have hcz18_0 := cz0 BK1033
    have hcz18_1 := cz1 BK1033
    have hfz18_0 := blk_frozen BK1033.out 0
    have hfz18_1 := blk_frozen BK1033.out 1
    go_wp2_with (first | ((with_reducible refine gate_callee (f := 103) rfl ?_); refine goesL_ (some 19) rfl rfl Try.func103 (by kernel_rfl) rfl #[.agg #[.int .i64 a0_0, .int .i64 a0_1], .string (rdOf ByteArray.empty l1 x12_1)] rfl (by (try simp only [m_1, m_2, m_3]); first | done | rfl | (simp only [m_4, m_5]; rfl)) ?_; (with_reducible refine (spec_whCode.calls k1 a0_0 a0_1 (rdOf ByteArray.empty l1 x12_1) true _ A9.out).mono ?_); rintro e w19 ⟨rfl, hb⟩; refine ⟨_, rfl, ?_⟩; replace BK1033 := bbx hb BK1033; replace HB := bsx hb HB; skip; (try clear hb); (try clear hb2); (try clear hk); (try clear hi); have p1036 : 0 ≤ ((ji12) : Int) := of_decide_eq_true (by first | (with_reducible assumption) | assumption); have q1036 : (ji12) < (l1.length : Int) := of_decide_eq_true (by first | (with_reducible assumption) | assumption); obtain ⟨ad1036, e1036, hx1036_0⟩ := Kd.at_string HR1.out (ji12) p1036 q1036; obtain rfl : ad1034 = ad1036 := (by injection e1036); replace hx1036_0 := (HB.out.cell (World.block_lt_of_cell? w _ hx1036_0)).trans hx1036_0; replace p1036 := eq_true p1036; replace q1036 := eq_true q1036))
    go_ret
    exact ⟨by first | rfl | (simp [errW_none, errW_some] <;> rfl) | (simp only [← hji12]; first | rfl | (simp [errW_none, errW_some] <;> rfl)) | (simp [*, errW_none, errW_some] <;> rfl), bB HB⟩
  rw [if_pos c15] at H
  have c15b0 : (Op.bytesLess ((rdOf ByteArray.empty l1 (ji12)).toList) ((rdOf ByteArray.empty l1 x12_1).toList)) = true := c15
  clear c15
  have H' := Aside0.mk H
  clear H
  have p1034 : 0 ≤ (x12_1 : Int) := of_decide_eq_true (by first | (with_reducible assumption) | assumption)
  have q1034 : x12_1 < (l1.length : Int) := of_decide_eq_true (by first | (with_reducible assumption) | assumption)
  obtain ⟨ad1034, e1034, hx1034_0⟩ := Kd.at_string HR1.out x12_1 p1034 q1034
  cases e1034
  replace hx1034_0 := (HB.out.cell (World.block_lt_of_cell? w _ hx1034_0)).trans hx1034_0
  replace p1034 := eq_true p1034
  replace q1034 := eq_true q1034
  have hcz16_0 := cz0 BK1033
  have hcz16_1 := cz1 BK1033
  have hfz16_0 := blk_frozen BK1033.out 0
  have hfz16_1 := blk_frozen BK1033.out 1
  go_wp2_with (first | ((with_reducible refine gate_callee (f := 103) rfl ?_); refine goesL_ (some 19) rfl rfl Try.func103 (by kernel_rfl) rfl #[.agg #[.int .i64 a0_0, .int .i64 a0_1], .string (rdOf ByteArray.empty l1 x12_1)] rfl (by (try simp only [m_1, m_2, m_3]); first | done | rfl | (simp only [m_4, m_5]; rfl)) ?_; (with_reducible refine (spec_whCode.calls k1 a0_0 a0_1 (rdOf ByteArray.empty l1 x12_1) true _ A9.out).mono ?_); rintro e w17 ⟨rfl, hb⟩; refine ⟨_, rfl, ?_⟩; replace BK1033 := bbx hb BK1033; replace HB := bsx hb HB; skip; (try clear hb); (try clear hb2); (try clear hk); (try clear hi); have p1036 : 0 ≤ ((ji12) : Int) := of_decide_eq_true (by first | (with_reducible assumption) | assumption); have q1036 : (ji12) < (l1.length : Int) := of_decide_eq_true (by first | (with_reducible assumption) | assumption); obtain ⟨ad1036, e1036, hx1036_0⟩ := Kd.at_string HR1.out (ji12) p1036 q1036; obtain rfl : ad1034 = ad1036 := (by injection e1036); replace hx1036_0 := (HB.out.cell (World.block_lt_of_cell? w _ hx1036_0)).trans hx1036_0; replace p1036 := eq_true p1036; replace q1036 := eq_true q1036))
  go_roundg k1
  case measure => have := HK1.out; omega
  case rel => exact ⟨(wrap64 (x12_1 + 1)), (by first | rfl | (simp; done) | (simp [*]; done)), H', ⟨by have := HK1.out; omega⟩, ⟨bK BK1033⟩, ⟨bB HB⟩⟩
/-! ### spec_deAsked: function 84 -/
def spec_deAsked.f (k : Nat) (a0_0 : Int) (a0_1 : Int) (l1 : List ByteArray) (a2 : ByteArray) : Option (Bool) := (spec_deSmall.f k a0_0 a0_1).bind fun t1038 => (if t1038 = true then ((spec_deList.f k a0_0 a0_1 l1).bind fun t1039 => (if t1039 = true then ((spec_whCode.f k a0_0 a0_1 a2).bind fun t1040 => (if t1040 = true then ((spec_l1HasS.f k l1 a2).bind fun t1041 => (some (!t1041))) else (some false))) else (some false))) else (some false))
theorem spec_deAsked.mono : ∀ a0 a1 a2 a3 k, LeO (spec_deAsked.f k a0 a1 a2 a3) (spec_deAsked.f (k + 1) a0 a1 a2 a3) := by
  intro a0 a1 a2 a3 k
  unfold spec_deAsked.f
  repeat' first
      | (with_reducible exact spec_deList.mono _ _ _ _)
      | (with_reducible exact spec_deSmall.mono _ _ _)
      | (with_reducible exact spec_l1HasS.mono _ _ _)
      | (with_reducible exact spec_whCode.mono _ _ _ _)
      | (with_reducible exact LeO.refl _)
      | (with_reducible exact LeO.none _)
      | (with_reducible refine LeO.ite ?_ ?_)
      | (with_reducible refine LeO.bind ?_ (fun _ => ?_))
      | exact spec_deList.mono _ _ _ _
      | exact spec_deSmall.mono _ _ _
      | exact spec_l1HasS.mono _ _ _
      | exact spec_whCode.mono _ _ _ _
      | exact LeO.none _
      | refine LeO.ite ?_ ?_
      | refine LeO.bind ?_ (fun _ => ?_)
set_option maxHeartbeats 8000000 in
set_option maxRecDepth 100000 in
theorem spec_deAsked.calls (k : Nat) (a0_0 : Int) (a0_1 : Int) (A1 : Option Addr) (c1 : Nat) (l1 : List ByteArray) (a2 : ByteArray) (r : Bool) (w : World) (hr1 : Kd.C Kd.string w A1 l1.length l1) (hc1 : l1.length ≤ c1) (h : spec_deAsked.f k a0_0 a0_1 l1 a2 = some r) :
    Calls Try.prog 84 #[.agg #[.int .i64 a0_0, .int .i64 a0_1], .slice A1 l1.length c1, .string a2] w fun e w' => e = .returned (.bool r) ∧ Below w.heap.size w w' := by
  have hu28 := Try.underlying28
  have HR1 := Aside0.mk hr1
  have HC1 := Aside0.mk hc1
  clear hr1 hc1
  have HB := Aside0.mk (Below.refl w.heap.size w)
  have H : ((spec_deSmall.f k a0_0 a0_1).bind fun t1038 => (if t1038 = true then ((spec_deList.f k a0_0 a0_1 l1).bind fun t1039 => (if t1039 = true then ((spec_whCode.f k a0_0 a0_1 a2).bind fun t1040 => (if t1040 = true then ((spec_l1HasS.f k l1 a2).bind fun t1041 => (some (!t1041))) else (some false))) else (some false))) else (some false))) = some r := h
  clear h
  replace H := Option.bind_eq_some_iff.mp H
  obtain ⟨t1038, A40, H⟩ := H
  try dsimp only at H
  have A4 := Aside0.mk A40
  clear A40
  by_cases c5 : t1038 = true
  rotate_left
  · replace c5 := Bool.eq_false_iff.mpr c5
    subst c5
    rw [if_neg (show ¬ (false = true) by decide)] at H
    obtain rfl := Option.some.inj H
    go_enter Try.func84, Try.ntmps84
    go_wp2_with (first | ((with_reducible refine gate_dst (N := 3) rfl ?_); refine box_event ?hg (N := 3) ?hd (cs := #[.int .i64 a0_0, .int .i64 a0_1]) (t := 28) ?hr ?_; (case hd => rfl); (case hg => rfl); (case hr => first | (go_simp; done) | (go_simp; rfl)); intro gb1037 hg w30 hbox hb; have n0_ := bsx hb HB; have n1_ := Aside0.mk (hbox); have n2_ := gwx hg HB; have n3_ := n2_; clear HB; have HB := n0_; have BK1037 := n1_; have GW1037 := n2_; have GE1037 := n3_; clear n0_ n1_ n2_ n3_; clear hb hbox hg; have hcz31_0 := cz0 BK1037; have hcz31_1 := cz1 BK1037; have hfz31_0 := blk_frozen BK1037.out 0; have hfz31_1 := blk_frozen BK1037.out 1) | ((with_reducible refine gate_callee (f := 135) rfl ?_); refine goesL_ (some 8) rfl rfl Try.func135 (by kernel_rfl) rfl #[.agg #[.int .i64 a0_0, .int .i64 a0_1]] rfl (by (try simp only [m_1, m_2, m_3]); first | done | rfl | (simp only [m_4, m_5]; rfl)) ?_; (with_reducible refine (spec_deSmall.calls k a0_0 a0_1 false _ A4.out).mono ?_); rintro e w32 ⟨rfl, hb⟩; refine ⟨_, rfl, ?_⟩; replace BK1037 := bbx hb BK1037; replace HB := bsx hb HB; skip; (try clear hb); (try clear hb2); (try clear hk); (try clear hi)))
    go_ret
    exact ⟨by first | rfl | (simp [errW_none, errW_some] <;> rfl) | (simp [*, errW_none, errW_some] <;> rfl), bB HB⟩

  subst c5
  rw [if_pos rfl] at H
  replace H := Option.bind_eq_some_iff.mp H
  obtain ⟨t1039, A60, H⟩ := H
  try dsimp only at H
  have A6 := Aside0.mk A60
  clear A60
  by_cases c7 : t1039 = true
  rotate_left
  · replace c7 := Bool.eq_false_iff.mpr c7
    subst c7
    rw [if_neg (show ¬ (false = true) by decide)] at H
    obtain rfl := Option.some.inj H
    go_enter Try.func84, Try.ntmps84
    go_wp2_with (first | ((with_reducible refine gate_dst (N := 3) rfl ?_); refine box_event ?hg (N := 3) ?hd (cs := #[.int .i64 a0_0, .int .i64 a0_1]) (t := 28) ?hr ?_; (case hd => rfl); (case hg => rfl); (case hr => first | (go_simp; done) | (go_simp; rfl)); intro gb1037 hg w25 hbox hb; have n0_ := bsx hb HB; have n1_ := Aside0.mk (hbox); have n2_ := gwx hg HB; have n3_ := n2_; clear HB; have HB := n0_; have BK1037 := n1_; have GW1037 := n2_; have GE1037 := n3_; clear n0_ n1_ n2_ n3_; clear hb hbox hg; have hcz26_0 := cz0 BK1037; have hcz26_1 := cz1 BK1037; have hfz26_0 := blk_frozen BK1037.out 0; have hfz26_1 := blk_frozen BK1037.out 1) | ((with_reducible refine gate_callee (f := 135) rfl ?_); refine goesL_ (some 8) rfl rfl Try.func135 (by kernel_rfl) rfl #[.agg #[.int .i64 a0_0, .int .i64 a0_1]] rfl (by (try simp only [m_1, m_2, m_3]); first | done | rfl | (simp only [m_4, m_5]; rfl)) ?_; (with_reducible refine (spec_deSmall.calls k a0_0 a0_1 true _ A4.out).mono ?_); rintro e w27 ⟨rfl, hb⟩; refine ⟨_, rfl, ?_⟩; replace BK1037 := bbx hb BK1037; replace HB := bsx hb HB; skip; (try clear hb); (try clear hb2); (try clear hk); (try clear hi); have hcz28_0 := cz0 BK1037; have hcz28_1 := cz1 BK1037; have hfz28_0 := blk_frozen BK1037.out 0; have hfz28_1 := blk_frozen BK1037.out 1) | (go_at_call 136; (with_reducible refine (spec_deList.calls k a0_0 a0_1 _ _ l1 false _ ?side1 ?side2 A6.out).mono ?_); (case side1 => repeat (first | exact (Kd.C_below HR1.out HB.out) | (with_reducible refine Kd.C_alloc ?_ _) | (with_reducible refine Kd.C_drewN ?_ _) | (with_reducible refine Kd.C_drew ?_))); (case side2 => exact HC1.out); rintro e w29 ⟨rfl, hb⟩; replace BK1037 := bbx hb BK1037; replace HB := bsx hb HB; skip; (try clear hb); (try clear hb2); (try clear hk); (try clear hi)))
    go_ret
    exact ⟨by first | rfl | (simp [errW_none, errW_some] <;> rfl) | (simp [*, errW_none, errW_some] <;> rfl), bB HB⟩
  subst c7
  rw [if_pos rfl] at H
  replace H := Option.bind_eq_some_iff.mp H
  obtain ⟨t1040, A80, H⟩ := H
  try dsimp only at H
  have A8 := Aside0.mk A80
  clear A80
  by_cases c9 : t1040 = true
  rotate_left
  · replace c9 := Bool.eq_false_iff.mpr c9
    subst c9
    rw [if_neg (show ¬ (false = true) by decide)] at H
    obtain rfl := Option.some.inj H
    go_enter Try.func84, Try.ntmps84
    go_wp2_with (first | ((with_reducible refine gate_dst (N := 3) rfl ?_); refine box_event ?hg (N := 3) ?hd (cs := #[.int .i64 a0_0, .int .i64 a0_1]) (t := 28) ?hr ?_; (case hd => rfl); (case hg => rfl); (case hr => first | (go_simp; done) | (go_simp; rfl)); intro gb1037 hg w18 hbox hb; have n0_ := bsx hb HB; have n1_ := Aside0.mk (hbox); have n2_ := gwx hg HB; have n3_ := n2_; clear HB; have HB := n0_; have BK1037 := n1_; have GW1037 := n2_; have GE1037 := n3_; clear n0_ n1_ n2_ n3_; clear hb hbox hg; have hcz19_0 := cz0 BK1037; have hcz19_1 := cz1 BK1037; have hfz19_0 := blk_frozen BK1037.out 0; have hfz19_1 := blk_frozen BK1037.out 1) | ((with_reducible refine gate_callee (f := 135) rfl ?_); refine goesL_ (some 8) rfl rfl Try.func135 (by kernel_rfl) rfl #[.agg #[.int .i64 a0_0, .int .i64 a0_1]] rfl (by (try simp only [m_1, m_2, m_3]); first | done | rfl | (simp only [m_4, m_5]; rfl)) ?_; (with_reducible refine (spec_deSmall.calls k a0_0 a0_1 true _ A4.out).mono ?_); rintro e w20 ⟨rfl, hb⟩; refine ⟨_, rfl, ?_⟩; replace BK1037 := bbx hb BK1037; replace HB := bsx hb HB; skip; (try clear hb); (try clear hb2); (try clear hk); (try clear hi); have hcz21_0 := cz0 BK1037; have hcz21_1 := cz1 BK1037; have hfz21_0 := blk_frozen BK1037.out 0; have hfz21_1 := blk_frozen BK1037.out 1) | (go_at_call 136; (with_reducible refine (spec_deList.calls k a0_0 a0_1 _ _ l1 true _ ?side1 ?side2 A6.out).mono ?_); (case side1 => repeat (first | exact (Kd.C_below HR1.out HB.out) | (with_reducible refine Kd.C_alloc ?_ _) | (with_reducible refine Kd.C_drewN ?_ _) | (with_reducible refine Kd.C_drew ?_))); (case side2 => exact HC1.out); rintro e w22 ⟨rfl, hb⟩; replace BK1037 := bbx hb BK1037; replace HB := bsx hb HB; skip; (try clear hb); (try clear hb2); (try clear hk); (try clear hi); have hcz23_0 := cz0 BK1037; have hcz23_1 := cz1 BK1037; have hfz23_0 := blk_frozen BK1037.out 0; have hfz23_1 := blk_frozen BK1037.out 1) | (go_at_call 103; (with_reducible refine (spec_whCode.calls k a0_0 a0_1 a2 false _ A8.out).mono ?_); rintro e w24 ⟨rfl, hb⟩; replace BK1037 := bbx hb BK1037; replace HB := bsx hb HB; skip; (try clear hb); (try clear hb2); (try clear hk); (try clear hi)))
    go_ret
    exact ⟨by first | rfl | (simp [errW_none, errW_some] <;> rfl) | (simp [*, errW_none, errW_some] <;> rfl), bB HB⟩
  subst c9
  rw [if_pos rfl] at H
  replace H := Option.bind_eq_some_iff.mp H
  obtain ⟨t1041, A100, H⟩ := H
  try dsimp only at H
  have A10 := Aside0.mk A100
  clear A100
  obtain rfl := Option.some.inj H
  go_enter Try.func84, Try.ntmps84
  go_wp2_with (first | ((with_reducible refine gate_dst (N := 3) rfl ?_); refine box_event ?hg (N := 3) ?hd (cs := #[.int .i64 a0_0, .int .i64 a0_1]) (t := 28) ?hr ?_; (case hd => rfl); (case hg => rfl); (case hr => first | (go_simp; done) | (go_simp; rfl)); intro gb1037 hg w11 hbox hb; have n0_ := bsx hb HB; have n1_ := Aside0.mk (hbox); have n2_ := gwx hg HB; have n3_ := n2_; clear HB; have HB := n0_; have BK1037 := n1_; have GW1037 := n2_; have GE1037 := n3_; clear n0_ n1_ n2_ n3_; clear hb hbox hg; have hcz12_0 := cz0 BK1037; have hcz12_1 := cz1 BK1037; have hfz12_0 := blk_frozen BK1037.out 0; have hfz12_1 := blk_frozen BK1037.out 1) | ((with_reducible refine gate_callee (f := 135) rfl ?_); refine goesL_ (some 8) rfl rfl Try.func135 (by kernel_rfl) rfl #[.agg #[.int .i64 a0_0, .int .i64 a0_1]] rfl (by (try simp only [m_1, m_2, m_3]); first | done | rfl | (simp only [m_4, m_5]; rfl)) ?_; (with_reducible refine (spec_deSmall.calls k a0_0 a0_1 true _ A4.out).mono ?_); rintro e w13 ⟨rfl, hb⟩; refine ⟨_, rfl, ?_⟩; replace BK1037 := bbx hb BK1037; replace HB := bsx hb HB; skip; (try clear hb); (try clear hb2); (try clear hk); (try clear hi); have hcz14_0 := cz0 BK1037; have hcz14_1 := cz1 BK1037; have hfz14_0 := blk_frozen BK1037.out 0; have hfz14_1 := blk_frozen BK1037.out 1) | (go_at_call 136; (with_reducible refine (spec_deList.calls k a0_0 a0_1 _ _ l1 true _ ?side1 ?side2 A6.out).mono ?_); (case side1 => repeat (first | exact (Kd.C_below HR1.out HB.out) | (with_reducible refine Kd.C_alloc ?_ _) | (with_reducible refine Kd.C_drewN ?_ _) | (with_reducible refine Kd.C_drew ?_))); (case side2 => exact HC1.out); rintro e w15 ⟨rfl, hb⟩; replace BK1037 := bbx hb BK1037; replace HB := bsx hb HB; skip; (try clear hb); (try clear hb2); (try clear hk); (try clear hi); have hcz16_0 := cz0 BK1037; have hcz16_1 := cz1 BK1037; have hfz16_0 := blk_frozen BK1037.out 0; have hfz16_1 := blk_frozen BK1037.out 1) | (go_at_call 103; (with_reducible refine (spec_whCode.calls k a0_0 a0_1 a2 true _ A8.out).mono ?_); rintro e w17 ⟨rfl, hb⟩; replace BK1037 := bbx hb BK1037; replace HB := bsx hb HB; skip; (try clear hb); (try clear hb2); (try clear hk); (try clear hi)) | (go_at_call 86; (with_reducible refine (spec_l1HasS.calls k _ _ l1 a2 t1041 _ ?side1 ?side2 A10.out).mono ?_); (case side1 => repeat (first | exact (Kd.C_below HR1.out HB.out) | (with_reducible refine Kd.C_alloc ?_ _) | (with_reducible refine Kd.C_drewN ?_ _) | (with_reducible refine Kd.C_drew ?_))); (case side2 => exact HC1.out); rintro e w' ⟨rfl, ⟨nd, rfl⟩⟩))
  go_ret
  exact ⟨by first | rfl | (simp [errW_none, errW_some] <;> rfl) | (simp [*, errW_none, errW_some] <;> rfl), bB HB⟩
/-! ### impl_areDead: function 139 -/
mutual
def impl_areDead.j0 : Nat → List ByteArray → Bool → Option (Bool)
  | 0, _, _ => none
  | k + 1, x1, x19 => if x19 = true then (some false) else (impl_areDead.l0 k x1 1)
def impl_areDead.l0 : Nat → List ByteArray → Int → Option (Bool)
  | 0, _, _ => none
  | k + 1, x1, x5 => if x5 < (x1.length : Int) then (if 0 ≤ x5 then (if 0 ≤ (wrap64 (x5 - 1)) then (if (wrap64 (x5 - 1)) < (x1.length : Int) then (if ((Op.bytesLess ((rdOf ByteArray.empty x1 (wrap64 (x5 - 1))).toList) ((rdOf ByteArray.empty x1 x5).toList)) = true) then (impl_areDead.l0 k x1 (wrap64 (x5 + 1))) else (some false)) else (none)) else (none)) else (none)) else (some true)
end
def impl_areDead.f (k : Nat) (a0_0 : Int) (a0_1 : Int) (l1 : List ByteArray) : Option (Bool) := (impl_isSmall.f k a0_0 a0_1 1000).bind fun t1054 => (if t1054 = true then (if (l1.length : Int) > 60 then (impl_areDead.j0 k l1 true) else ((impl_has.f k a0_0 a0_1 l1).bind fun t1055 => (impl_areDead.j0 k l1 (!t1055)))) else (impl_areDead.j0 k l1 true))
theorem impl_areDead.mono_l : ∀ k, (∀ y0 y1, LeO (impl_areDead.j0 k y0 y1) (impl_areDead.j0 (k + 1) y0 y1)) ∧ (∀ y0 y1, LeO (impl_areDead.l0 k y0 y1) (impl_areDead.l0 (k + 1) y0 y1))
  | 0 => ⟨fun _ _ r h => by simp [impl_areDead.j0] at h, fun _ _ r h => by simp [impl_areDead.l0] at h⟩
  | k + 1 => by
    obtain ⟨ih0, ih1⟩ := impl_areDead.mono_l k
    refine ⟨?_, ?_⟩
    rotate_left
    · intro y0 y1
      unfold impl_areDead.l0
      repeat' first
      | (with_reducible exact ih0 _ _)
      | (with_reducible exact ih1 _ _)
      | (with_reducible exact impl_has.mono _ _ _ _)
      | (with_reducible exact impl_isSmall.mono _ _ _ _)
      | (with_reducible exact LeO.refl _)
      | (with_reducible exact LeO.none _)
      | (with_reducible refine LeO.ite ?_ ?_)
      | (with_reducible refine LeO.bind ?_ (fun _ => ?_))
      | exact ih0 _ _
      | exact ih1 _ _
      | exact impl_has.mono _ _ _ _
      | exact impl_isSmall.mono _ _ _ _
      | exact LeO.none _
      | refine LeO.ite ?_ ?_
      | refine LeO.bind ?_ (fun _ => ?_)
    intro y0 y1
    unfold impl_areDead.j0
    repeat' first
    | (with_reducible exact ih0 _ _)
    | (with_reducible exact ih1 _ _)
    | (with_reducible exact impl_has.mono _ _ _ _)
    | (with_reducible exact impl_isSmall.mono _ _ _ _)
    | (with_reducible exact LeO.refl _)
    | (with_reducible exact LeO.none _)
    | (with_reducible refine LeO.ite ?_ ?_)
    | (with_reducible refine LeO.bind ?_ (fun _ => ?_))
    | exact ih0 _ _
    | exact ih1 _ _
    | exact impl_has.mono _ _ _ _
    | exact impl_isSmall.mono _ _ _ _
    | exact LeO.none _
    | refine LeO.ite ?_ ?_
    | refine LeO.bind ?_ (fun _ => ?_)
theorem impl_areDead.mono : ∀ a0 a1 a2 k, LeO (impl_areDead.f k a0 a1 a2) (impl_areDead.f (k + 1) a0 a1 a2) := by
  intro a0 a1 a2 k
  obtain ⟨ih0, ih1⟩ := impl_areDead.mono_l k
  unfold impl_areDead.f
  repeat' first
      | (with_reducible exact ih0 _ _)
      | (with_reducible exact ih1 _ _)
      | (with_reducible exact impl_has.mono _ _ _ _)
      | (with_reducible exact impl_isSmall.mono _ _ _ _)
      | (with_reducible exact LeO.refl _)
      | (with_reducible exact LeO.none _)
      | (with_reducible refine LeO.ite ?_ ?_)
      | (with_reducible refine LeO.bind ?_ (fun _ => ?_))
      | exact ih0 _ _
      | exact ih1 _ _
      | exact impl_has.mono _ _ _ _
      | exact impl_isSmall.mono _ _ _ _
      | exact LeO.none _
      | refine LeO.ite ?_ ?_
      | refine LeO.bind ?_ (fun _ => ?_)
set_option maxHeartbeats 8000000 in
set_option maxRecDepth 100000 in
theorem impl_areDead.calls (k : Nat) (a0_0 : Int) (a0_1 : Int) (A1 : Option Addr) (c1 : Nat) (l1 : List ByteArray) (r : Bool) (w : World) (hr1 : Kd.C Kd.string w A1 l1.length l1) (hc1 : l1.length ≤ c1) (h : impl_areDead.f k a0_0 a0_1 l1 = some r) :
    Calls Try.prog 139 #[.agg #[.int .i64 a0_0, .int .i64 a0_1], .slice A1 l1.length c1] w fun e w' => e = .returned (.bool r) ∧ Below w.heap.size w w' := by
  have hu28 := Try.underlying28
  have HR1 := Aside0.mk hr1
  have HC1 := Aside0.mk hc1
  clear hr1 hc1
  have HB := Aside0.mk (Below.refl w.heap.size w)
  have H : ((impl_isSmall.f k a0_0 a0_1 1000).bind fun t1054 => (if t1054 = true then (if (l1.length : Int) > 60 then (impl_areDead.j0 k l1 true) else ((impl_has.f k a0_0 a0_1 l1).bind fun t1055 => (impl_areDead.j0 k l1 (!t1055)))) else (impl_areDead.j0 k l1 true))) = some r := h
  clear h
  have HC3 := Aside0.mk H
  clear H
  go_enter Try.func139, Try.ntmps139
  go_upto_region 1 with (first | ((with_reducible refine gate_dst (N := 2) rfl ?_); (try (refine gate_guard (by rfl) ?_; dsimp only)); refine box_event ?hg (N := 2) ?hd (cs := #[.int .i64 a0_0, .int .i64 a0_1]) (t := 28) ?hr ?_; (case hd => rfl); (case hg => rfl); (case hr => first | (go_simp; done) | (go_simp; rfl)); intro gb1053 hg w4 hbox hb; have n0_ := bsx hb HB; have n1_ := Aside0.mk (hbox); have n2_ := gwx hg HB; have n3_ := n2_; clear HB; have HB := n0_; have BK1053 := n1_; have GW1053 := n2_; have GE1053 := n3_; clear n0_ n1_ n2_ n3_; clear hb hbox hg))
  repeat (go_quiet (first | ((with_reducible refine gate_dst (N := 2) rfl ?_); (try (refine gate_guard (by rfl) ?_; dsimp only)); refine box_event ?hg (N := 2) ?hd (cs := #[.int .i64 a0_0, .int .i64 a0_1]) (t := 28) ?hr ?_; (case hd => rfl); (case hg => rfl); (case hr => first | (go_simp; done) | (go_simp; rfl)); intro gb1053 hg w4 hbox hb; have n0_ := bsx hb HB; have n1_ := Aside0.mk (hbox); have n2_ := gwx hg HB; have n3_ := n2_; clear HB; have HB := n0_; have BK1053 := n1_; have GW1053 := n2_; have GE1053 := n3_; clear n0_ n1_ n2_ n3_; clear hb hbox hg)); go_upto_region 1 with (first | ((with_reducible refine gate_dst (N := 2) rfl ?_); (try (refine gate_guard (by rfl) ?_; dsimp only)); refine box_event ?hg (N := 2) ?hd (cs := #[.int .i64 a0_0, .int .i64 a0_1]) (t := 28) ?hr ?_; (case hd => rfl); (case hg => rfl); (case hr => first | (go_simp; done) | (go_simp; rfl)); intro gb1053 hg w4 hbox hb; have n0_ := bsx hb HB; have n1_ := Aside0.mk (hbox); have n2_ := gwx hg HB; have n3_ := n2_; clear HB; have HB := n0_; have BK1053 := n1_; have GW1053 := n2_; have GE1053 := n3_; clear n0_ n1_ n2_ n3_; clear hb hbox hg)))
  (try simp only [Act.put, s_1, s_2, s_3])
  go_cut [19] (fun v19 wc => ∃ (kq : Nat) (x19_2 : Bool), v19 = .bool x19_2 ∧ Aside0 (impl_areDead.j0 kq l1 x19_2 = some r) ∧ Aside0 (kq ≤ k) ∧ Aside0 (wc.heap[gb1053]? = some (.cells #[.int .i64 a0_0, .int .i64 a0_1] 28 (0, 0))) ∧ Aside0 (Below w.heap.size w wc))
  case first =>
    have H := HC3.out
    clear HC3
    replace H := Option.bind_eq_some_iff.mp H
    obtain ⟨t1054, A50, H⟩ := H
    try dsimp only at H
    have A5 := Aside0.mk A50
    clear A50
    by_cases c6 : t1054 = true
    rotate_left
    · replace c6 := Bool.eq_false_iff.mpr c6
      subst c6
      rw [if_neg (show ¬ (false = true) by decide)] at H
      have H' := Aside0.mk H
      clear H
      have hcz15_0 := cz0 BK1053
      have hcz15_1 := cz1 BK1053
      have hfz15_0 := blk_frozen BK1053.out 0
      have hfz15_1 := blk_frozen BK1053.out 1
      go_wp2_with (first | (go_at_call 82; (with_reducible refine (impl_isSmall.calls k a0_0 a0_1 1000 false _ A5.out).mono ?_); rintro e w16 ⟨rfl, hb⟩; replace BK1053 := bbx hb BK1053; replace HB := bsx hb HB; skip; (try clear hb); (try clear hb2); (try clear hk); (try clear hi)))
      repeat (go_quiet (first | (go_at_call 82; (with_reducible refine (impl_isSmall.calls k a0_0 a0_1 1000 false _ A5.out).mono ?_); rintro e w16 ⟨rfl, hb⟩; replace BK1053 := bbx hb BK1053; replace HB := bsx hb HB; skip; (try clear hb); (try clear hb2); (try clear hk); (try clear hi))); try go_wp2_with (first | (go_at_call 82; (with_reducible refine (impl_isSmall.calls k a0_0 a0_1 1000 false _ A5.out).mono ?_); rintro e w16 ⟨rfl, hb⟩; replace BK1053 := bbx hb BK1053; replace HB := bsx hb HB; skip; (try clear hb); (try clear hb2); (try clear hk); (try clear hi))))
      go_meet
      case rel => exact ⟨_, (true), (by first | rfl | (simp; done) | (simp [*]; done)), H', ⟨by first | omega | exact Nat.le_refl _⟩, ⟨bK BK1053⟩, ⟨bB HB⟩⟩
    subst c6
    rw [if_pos rfl] at H
    by_cases c7 : (l1.length : Int) > 60
    · rw [if_pos c7] at H
      have c7b0 : decide (60 < (l1.length : Int)) = true := decide_eq_true c7
      have c7b1 : decide (60 < l1.length) = true := decide_eq_true (by omega)
      clear c7
      (first | rw [c7b0] | (simp only [i64_w, i32_w]; rw [c7b0]) | skip)
      have H' := Aside0.mk H
      clear H
      have hcz8_0 := cz0 BK1053
      have hcz8_1 := cz1 BK1053
      have hfz8_0 := blk_frozen BK1053.out 0
      have hfz8_1 := blk_frozen BK1053.out 1
      go_wp2_with (first | (go_at_call 82; (with_reducible refine (impl_isSmall.calls k a0_0 a0_1 1000 true _ A5.out).mono ?_); rintro e w9 ⟨rfl, hb⟩; replace BK1053 := bbx hb BK1053; replace HB := bsx hb HB; skip; (try clear hb); (try clear hb2); (try clear hk); (try clear hi)))
      repeat (go_quiet (first | (go_at_call 82; (with_reducible refine (impl_isSmall.calls k a0_0 a0_1 1000 true _ A5.out).mono ?_); rintro e w9 ⟨rfl, hb⟩; replace BK1053 := bbx hb BK1053; replace HB := bsx hb HB; skip; (try clear hb); (try clear hb2); (try clear hk); (try clear hi))); try go_wp2_with (first | (go_at_call 82; (with_reducible refine (impl_isSmall.calls k a0_0 a0_1 1000 true _ A5.out).mono ?_); rintro e w9 ⟨rfl, hb⟩; replace BK1053 := bbx hb BK1053; replace HB := bsx hb HB; skip; (try clear hb); (try clear hb2); (try clear hk); (try clear hi))))
      go_meet
      case rel => exact ⟨_, (true), (by first | rfl | (simp; done) | (simp [*]; done)), H', ⟨by first | omega | exact Nat.le_refl _⟩, ⟨bK BK1053⟩, ⟨bB HB⟩⟩
    rw [if_neg c7] at H
    have c7b0 : decide (60 < (l1.length : Int)) = false := decide_eq_false c7
    have c7b1 : decide (60 < l1.length) = false := decide_eq_false (by omega)
    clear c7
    (first | rw [c7b0] | (simp only [i64_w, i32_w]; rw [c7b0]) | skip)
    replace H := Option.bind_eq_some_iff.mp H
    obtain ⟨t1055, A100, H⟩ := H
    try dsimp only at H
    have A10 := Aside0.mk A100
    clear A100
    have H' := Aside0.mk H
    clear H
    have hcz11_0 := cz0 BK1053
    have hcz11_1 := cz1 BK1053
    have hfz11_0 := blk_frozen BK1053.out 0
    have hfz11_1 := blk_frozen BK1053.out 1
    go_wp2_with (first | (go_at_call 82; (with_reducible refine (impl_isSmall.calls k a0_0 a0_1 1000 true _ A5.out).mono ?_); rintro e w12 ⟨rfl, hb⟩; replace BK1053 := bbx hb BK1053; replace HB := bsx hb HB; skip; (try clear hb); (try clear hb2); (try clear hk); (try clear hi); have hcz13_0 := cz0 BK1053; have hcz13_1 := cz1 BK1053; have hfz13_0 := blk_frozen BK1053.out 0; have hfz13_1 := blk_frozen BK1053.out 1) | (go_at_call 119; (with_reducible refine (impl_has.calls k a0_0 a0_1 _ _ l1 t1055 _ ?side1 ?side2 A10.out).mono ?_); (case side1 => repeat (first | exact (Kd.C_below HR1.out HB.out) | (with_reducible refine Kd.C_alloc ?_ _) | (with_reducible refine Kd.C_drewN ?_ _) | (with_reducible refine Kd.C_drew ?_))); (case side2 => exact HC1.out); rintro e w14 ⟨rfl, hb⟩; replace BK1053 := bbx hb BK1053; replace HB := bsx hb HB; skip; (try clear hb); (try clear hb2); (try clear hk); (try clear hi)))
    repeat (go_quiet (first | (go_at_call 82; (with_reducible refine (impl_isSmall.calls k a0_0 a0_1 1000 true _ A5.out).mono ?_); rintro e w12 ⟨rfl, hb⟩; replace BK1053 := bbx hb BK1053; replace HB := bsx hb HB; skip; (try clear hb); (try clear hb2); (try clear hk); (try clear hi); have hcz13_0 := cz0 BK1053; have hcz13_1 := cz1 BK1053; have hfz13_0 := blk_frozen BK1053.out 0; have hfz13_1 := blk_frozen BK1053.out 1) | (go_at_call 119; (with_reducible refine (impl_has.calls k a0_0 a0_1 _ _ l1 t1055 _ ?side1 ?side2 A10.out).mono ?_); (case side1 => repeat (first | exact (Kd.C_below HR1.out HB.out) | (with_reducible refine Kd.C_alloc ?_ _) | (with_reducible refine Kd.C_drewN ?_ _) | (with_reducible refine Kd.C_drew ?_))); (case side2 => exact HC1.out); rintro e w14 ⟨rfl, hb⟩; replace BK1053 := bbx hb BK1053; replace HB := bsx hb HB; skip; (try clear hb); (try clear hb2); (try clear hk); (try clear hi))); try go_wp2_with (first | (go_at_call 82; (with_reducible refine (impl_isSmall.calls k a0_0 a0_1 1000 true _ A5.out).mono ?_); rintro e w12 ⟨rfl, hb⟩; replace BK1053 := bbx hb BK1053; replace HB := bsx hb HB; skip; (try clear hb); (try clear hb2); (try clear hk); (try clear hi); have hcz13_0 := cz0 BK1053; have hcz13_1 := cz1 BK1053; have hfz13_0 := blk_frozen BK1053.out 0; have hfz13_1 := blk_frozen BK1053.out 1) | (go_at_call 119; (with_reducible refine (impl_has.calls k a0_0 a0_1 _ _ l1 t1055 _ ?side1 ?side2 A10.out).mono ?_); (case side1 => repeat (first | exact (Kd.C_below HR1.out HB.out) | (with_reducible refine Kd.C_alloc ?_ _) | (with_reducible refine Kd.C_drewN ?_ _) | (with_reducible refine Kd.C_drew ?_))); (case side2 => exact HC1.out); rintro e w14 ⟨rfl, hb⟩; replace BK1053 := bbx hb BK1053; replace HB := bsx hb HB; skip; (try clear hb); (try clear hb2); (try clear hk); (try clear hi))))
    go_meet
    case rel => exact ⟨_, (!t1055), (by first | rfl | (simp; done) | (simp [*]; done)), H', ⟨by first | omega | exact Nat.le_refl _⟩, ⟨bK BK1053⟩, ⟨bB HB⟩⟩
  clear HC3
  try clear c1
  obtain ⟨kq, x19_2, rfl, HA, HJ2, BK1053, HB⟩ := hcut
  rcases kq with _ | kj2
  · exact absurd HA.out (by simp [impl_areDead.j0])
  have H := HA.out
  clear HA
  simp only [impl_areDead.j0] at H
  by_cases c17 : x19_2 = true
  · subst c17
    rw [if_pos rfl] at H
    obtain rfl := Option.some.inj H
    go_wp2
    repeat (go_quiet (fail); try go_wp2)
    go_ret
    exact ⟨by first | rfl | (simp [errW_none, errW_some] <;> rfl) | (simp [*, errW_none, errW_some] <;> rfl), bB HB⟩
  replace c17 := Bool.eq_false_iff.mpr c17
  subst c17
  rw [if_neg (show ¬ (false = true) by decide)] at H
  have H' := Aside0.mk H
  clear H
  go_wp2
  repeat (go_quiet (fail); try go_wp2)
  go_loopg [5] kj2 (fun kq v5 w' => ∃ (x5_2 : Int), v5 = .int .i64 x5_2 ∧ Aside0 (impl_areDead.l0 kq l1 x5_2 = some r) ∧ Aside0 (kq ≤ kj2) ∧ Aside0 (w'.heap[gb1053]? = some (.cells #[.int .i64 a0_0, .int .i64 a0_1] 28 (0, 0))) ∧ Aside0 (Below w.heap.size w w'))
  case atStart => exact ⟨(1), (by first | rfl | (simp; done) | (simp [*]; done)), H', ⟨Nat.le_refl _⟩, ⟨bK BK1053⟩, ⟨bB HB⟩⟩
  clear H'
  try clear c17
  obtain ⟨x5_2, rfl, HA, HK2, BK1053, HB⟩ := hrel
  rcases gk with _ | k2
  · exact absurd HA.out (by simp [impl_areDead.l0])
  have H := HA.out
  clear HA
  simp only [impl_areDead.l0] at H
  by_cases c18 : x5_2 < (l1.length : Int)
  rotate_left
  · rw [if_neg c18] at H
    have c18b0 : decide (x5_2 < (l1.length : Int)) = false := decide_eq_false c18
    clear c18
    obtain rfl := Option.some.inj H
    go_wp2
    repeat (go_quiet (fail); try go_wp2)
    go_ret
    exact ⟨by first | rfl | (simp [errW_none, errW_some] <;> rfl) | (simp [*, errW_none, errW_some] <;> rfl), bB HB⟩

  rw [if_pos c18] at H
  have c18b0 : decide (x5_2 < (l1.length : Int)) = true := decide_eq_true c18
  clear c18
  by_cases c19 : 0 ≤ x5_2
  rotate_left
  · rw [if_neg c19] at H
    exact absurd H (by simp)
  rw [if_pos c19] at H
  have c19b0 : decide (0 ≤ x5_2) = true := decide_eq_true c19
  clear c19
  obtain ⟨ji20, hji20⟩ : ∃ j_ : Int, (wrap64 (x5_2 - 1)) = j_ := ⟨_, rfl⟩
  replace H : (if 0 ≤ (ji20) then (if (ji20) < (l1.length : Int) then (if ((Op.bytesLess ((rdOf ByteArray.empty l1 (ji20)).toList) ((rdOf ByteArray.empty l1 x5_2).toList)) = true) then (impl_areDead.l0 k2 l1 (wrap64 (x5_2 + 1))) else (some false)) else (none)) else (none)) = some r := by first | (rw [hji20] at H; exact H) | (simp only [hji20] at H ⊢; exact H)
  have hji20w : (IntKind.i64.wrap (x5_2 - 1)) = ji20 := (i64_w _).trans hji20
  by_cases c21 : 0 ≤ (ji20)
  rotate_left
  · rw [if_neg c21] at H
    exact absurd H (by simp)
  rw [if_pos c21] at H
  have c21b0 : decide (0 ≤ (ji20)) = true := decide_eq_true c21
  clear c21
  by_cases c22 : (ji20) < (l1.length : Int)
  rotate_left
  · rw [if_neg c22] at H
    exact absurd H (by simp)
  rw [if_pos c22] at H
  have c22b0 : decide ((ji20) < (l1.length : Int)) = true := decide_eq_true c22
  clear c22
  by_cases c23 : ((Op.bytesLess ((rdOf ByteArray.empty l1 (ji20)).toList) ((rdOf ByteArray.empty l1 x5_2).toList)) = true)
  rotate_left
  · rw [if_neg c23] at H
    have c23b0 : (Op.bytesLess ((rdOf ByteArray.empty l1 (ji20)).toList) ((rdOf ByteArray.empty l1 x5_2).toList)) = false := by simpa using c23
    clear c23
    obtain rfl := Option.some.inj H
    have p1056 : 0 ≤ (x5_2 : Int) := of_decide_eq_true (by first | (with_reducible assumption) | assumption)
    have q1056 : x5_2 < (l1.length : Int) := of_decide_eq_true (by first | (with_reducible assumption) | assumption)
    obtain ⟨ad1056, e1056, hx1056_0⟩ := Kd.at_string HR1.out x5_2 p1056 q1056
    cases e1056
    replace hx1056_0 := (HB.out.cell (World.block_lt_of_cell? w _ hx1056_0)).trans hx1056_0
    replace p1056 := eq_true p1056
    replace q1056 := eq_true q1056
    have p1057 : 0 ≤ ((ji20) : Int) := of_decide_eq_true (by first | (with_reducible assumption) | assumption)
    have q1057 : (ji20) < (l1.length : Int) := of_decide_eq_true (by first | (with_reducible assumption) | assumption)
    obtain ⟨ad1057, e1057, hx1057_0⟩ := Kd.at_string HR1.out (ji20) p1057 q1057
    obtain rfl : ad1056 = ad1057 := (by injection e1057)
    replace hx1057_0 := (HB.out.cell (World.block_lt_of_cell? w _ hx1057_0)).trans hx1057_0
    replace p1057 := eq_true p1057
    replace q1057 := eq_true q1057
    go_wp2
    repeat (go_quiet (fail); try go_wp2)
    go_ret
    exact ⟨by first | rfl | (simp [errW_none, errW_some] <;> rfl) | (simp only [← hji20]; first | rfl | (simp [errW_none, errW_some] <;> rfl)) | (simp [*, errW_none, errW_some] <;> rfl), bB HB⟩
  rw [if_pos c23] at H
  have c23b0 : (Op.bytesLess ((rdOf ByteArray.empty l1 (ji20)).toList) ((rdOf ByteArray.empty l1 x5_2).toList)) = true := c23
  clear c23
  have H' := Aside0.mk H
  clear H
  have p1056 : 0 ≤ (x5_2 : Int) := of_decide_eq_true (by first | (with_reducible assumption) | assumption)
  have q1056 : x5_2 < (l1.length : Int) := of_decide_eq_true (by first | (with_reducible assumption) | assumption)
  obtain ⟨ad1056, e1056, hx1056_0⟩ := Kd.at_string HR1.out x5_2 p1056 q1056
  cases e1056
  replace hx1056_0 := (HB.out.cell (World.block_lt_of_cell? w _ hx1056_0)).trans hx1056_0
  replace p1056 := eq_true p1056
  replace q1056 := eq_true q1056
  have p1057 : 0 ≤ ((ji20) : Int) := of_decide_eq_true (by first | (with_reducible assumption) | assumption)
  have q1057 : (ji20) < (l1.length : Int) := of_decide_eq_true (by first | (with_reducible assumption) | assumption)
  obtain ⟨ad1057, e1057, hx1057_0⟩ := Kd.at_string HR1.out (ji20) p1057 q1057
  obtain rfl : ad1056 = ad1057 := (by injection e1057)
  replace hx1057_0 := (HB.out.cell (World.block_lt_of_cell? w _ hx1057_0)).trans hx1057_0
  replace p1057 := eq_true p1057
  replace q1057 := eq_true q1057
  go_wp2
  repeat (go_quiet (fail); try go_wp2)
  go_roundg k2
  case measure => have := HJ2.out; have := HK2.out; omega
  case rel => exact ⟨(wrap64 (x5_2 + 1)), (by first | rfl | (simp; done) | (simp [*]; done)), H', ⟨by have := HJ2.out; have := HK2.out; omega⟩, ⟨bK BK1053⟩, ⟨bB HB⟩⟩
/-! ### impl_areLive: function 87 (a text of our own) -/
def impl_areLive.any (l1 l2 : List ByteArray) : Bool := l2.any fun c => Lib.containsS l1 c
def impl_areLive.f (k : Nat) (a0_0 : Int) (a0_1 : Int) (l1 : List ByteArray) (l2 : List ByteArray) : Option Bool := (impl_areDead.f k a0_0 a0_1 l1).bind fun t => if t = true then ((impl_has.f k a0_0 a0_1 l2).bind fun h => if h = true then (if l1.length ≤ 9223372036854775807 then (if l2.length ≤ 9223372036854775807 then some (!impl_areLive.any l1 l2) else none) else none) else some false) else some false
theorem impl_areLive.mono : ∀ a0 a1 a2 a3 k, LeO (impl_areLive.f k a0 a1 a2 a3) (impl_areLive.f (k + 1) a0 a1 a2 a3) := by
  intro a0 a1 a2 a3 k
  unfold impl_areLive.f
  repeat' first
      | (with_reducible exact impl_areDead.mono _ _ _ _)
      | (with_reducible exact impl_has.mono _ _ _ _)
      | (with_reducible exact LeO.refl _)
      | (with_reducible exact LeO.none _)
      | (with_reducible refine LeO.ite ?_ ?_)
      | (with_reducible refine LeO.bind ?_ (fun _ => ?_))
set_option maxHeartbeats 8000000 in
set_option maxRecDepth 100000 in
/-- The closure: is a text among the dead codes. -/
theorem impl_areLive.pred (gd : Nat) (A1 : Option Addr) (c1 : Nat) (l1 : List ByteArray) (w : World) (hgd : gd < w.heap.size) (hcell : w.cell? ⟨gd, 0, none⟩ = some (.slice A1 l1.length c1)) (hr : Kd.C Kd.string w A1 l1.length l1) (hl : l1.length ≤ 9223372036854775807) :
    Go.Proofs.PredAt Try.prog 141 #[.pointer (some ⟨gd, 0, none⟩)] Value.string (fun c => Lib.containsS l1 c) w := fun W x hb => by
  have hc := (hb.cell (p := ⟨gd, 0, none⟩) hgd).trans hcell
  have hcon := slices_Contains_string_string.same A1 c1 l1 x W (Kd.C_below hr hb) hl
  have HCON := Aside0.mk hcon
  clear hcon hr hb hcell hgd
  show Calls Try.prog 141 #[.string x, .pointer (some ⟨gd, 0, none⟩)] W _
  obtain ⟨b, hbb⟩ : ∃ b, b = Lib.containsS l1 x := ⟨_, rfl⟩
  rw [← hbb] at HCON
  show Calls Try.prog 141 #[.string x, .pointer (some ⟨gd, 0, none⟩)] W fun e w' => e = .returned (.bool (Lib.containsS l1 x)) ∧ ∃ q, w' = W.drewN q
  rw [← hbb]
  clear hbb
  go_enter Try.func141, Try.ntmps141
  go_wp2_with (go_at_call 91; (with_reducible refine HCON.out.mono ?_); rintro e w' ⟨rfl, rfl⟩)
  go_ret
  exact ⟨rfl, 0, rfl⟩
theorem impl_areLive.anyF (gd : Nat) (A1 : Option Addr) (c1 : Nat) (l1 : List ByteArray) (A2 : Option Addr) (c2 : Nat) (l2 : List ByteArray) (w : World) (hgd : gd < w.heap.size) (hcell : w.cell? ⟨gd, 0, none⟩ = some (.slice A1 l1.length c1)) (hr : Kd.C Kd.string w A1 l1.length l1) (hr2 : Kd.C Kd.string w A2 l2.length l2) (hl : l1.length ≤ 9223372036854775807) (hl2 : l2.length ≤ 9223372036854775807) :
    Calls Try.prog 140 #[.slice A2 l2.length c2, .func (.func 141) #[] #[.pointer (some ⟨gd, 0, none⟩)]] w fun e w' => e = .returned (.bool (impl_areLive.any l1 l2)) ∧ ∃ q, w' = w.drewN q := by
  have eg : ∀ args w, (callFunc 141 args).run Try.prog w = .ok (.enter 141 args) w := enters_of Try.func141 (by kernel_rfl) rfl
  by_cases hp : 0 < l2.length
  · obtain ⟨b, o, rfl, hc⟩ := slices_Contains_string_string.open_ hr2 hp
    have := Try.slices_ContainsFunc Value.string (fun c => Lib.containsS l1 c) 141 #[.pointer (some ⟨gd, 0, none⟩)] eg b o l2.length c2 l2 w (impl_areLive.pred gd A1 c1 l1 w hgd hcell hr hl) (Nat.le_refl _) hl2 (fun j hj => by
      rw [hc j hj, List.getD_eq_getElem?_getD, List.getElem?_eq_getElem hj, getElem!_pos l2 j hj]; rfl)
    rwa [List.take_of_length_le (Nat.le_refl _)] at this
  · obtain rfl : l2 = [] := List.length_eq_zero_iff.mp (by omega)
    refine (Try.slices_ContainsFunc_empty (α := ByteArray) A2 c2 _ w).mono fun e w' ⟨he, hw⟩ => ⟨?_, 0, hw⟩
    rw [he]; rfl
set_option maxHeartbeats 8000000 in
set_option maxRecDepth 100000 in
theorem impl_areLive.calls (k : Nat) (a0_0 : Int) (a0_1 : Int) (A1 : Option Addr) (c1 : Nat) (l1 : List ByteArray) (A2 : Option Addr) (c2 : Nat) (l2 : List ByteArray) (r : Bool) (w : World) (hr1 : Kd.C Kd.string w A1 l1.length l1) (hc1 : l1.length ≤ c1) (hr2 : Kd.C Kd.string w A2 l2.length l2) (hc2 : l2.length ≤ c2) (h : impl_areLive.f k a0_0 a0_1 l1 l2 = some r) :
    Calls Try.prog 87 #[.agg #[.int .i64 a0_0, .int .i64 a0_1], .slice A1 l1.length c1, .slice A2 l2.length c2] w fun e w' => e = .returned (.bool r) ∧ Below w.heap.size w w' := by
  have hmf : ∀ (fn : Fn) (first cap : Array Value) (w : World), (Instr.makeFunc fn first cap).run Try.prog w = .ok (.func fn first cap) w := fun _ _ _ _ => rfl
  have hu26 := Try.underlying28
  have HR1 := Aside0.mk hr1
  have HC1 := Aside0.mk hc1
  have HR2 := Aside0.mk hr2
  have HC2 := Aside0.mk hc2
  clear hr1 hc1 hr2 hc2
  have HB := Aside0.mk (Below.refl w.heap.size w)
  unfold impl_areLive.f at h
  obtain ⟨t, A3, h⟩ := Option.bind_eq_some_iff.mp h
  replace A3 := Aside0.mk A3
  cases t with
  | false =>
    obtain rfl := Option.some.inj (show some false = some r by rw [← h]; rfl)
    clear h
    go_enter Try.func87, Try.ntmps87
    go_wp2_with (first | ((with_reducible refine gate_dst (N := 3) rfl ?_); refine box_event ?hg (N := 3) ?hd (cs := #[.int .i64 a0_0, .int .i64 a0_1]) (t := 28) ?hr ?_; (case hd => rfl); (case hg => rfl); (case hr => first | (go_simp; done) | (go_simp; rfl)); intro gb hg w5 hbox hb; replace HB := Aside0.mk (below_step HB.out hb); have BK := Aside0.mk hbox; clear hb hbox hg; have hcz0 : w5.cell? ⟨gb, 0, none⟩ = some (.int .i64 a0_0) := (blk_cell BK.out 0).trans rfl; have hcz1 : w5.cell? ⟨gb, 1, none⟩ = some (.int .i64 a0_1) := (blk_cell BK.out 1).trans rfl; have hfz0 := blk_frozen BK.out 0; have hfz1 := blk_frozen BK.out 1) | ((with_reducible refine gate_dst (N := 4) rfl ?_); refine box_event ?hg (N := 4) ?hd (cs := #[.slice A1 l1.length c1]) (t := 24) ?hr ?_; (case hd => rfl); (case hg => rfl); (case hr => first | (go_simp; done) | (go_simp; rfl)); intro gd hg w6 hbox hb; replace HB := Aside0.mk (below_step HB.out hb); replace BK := Aside0.mk (blk_below BK.out hb); have BD := Aside0.mk hbox; clear hb hbox hg hcz0 hcz1 hfz0 hfz1; have hcz0 : w6.cell? ⟨gb, 0, none⟩ = some (.int .i64 a0_0) := (blk_cell BK.out 0).trans rfl; have hcz1 : w6.cell? ⟨gb, 1, none⟩ = some (.int .i64 a0_1) := (blk_cell BK.out 1).trans rfl; have hcd : w6.cell? ⟨gd, 0, none⟩ = some (.slice A1 l1.length c1) := (blk_cell BD.out 0).trans rfl) | ((with_reducible refine gate_callee (f := 139) rfl ?_); refine goesL_ (some 9) rfl rfl Try.func139 (by kernel_rfl) rfl #[.agg #[.int .i64 a0_0, .int .i64 a0_1], .slice A1 l1.length c1] rfl (by (try simp only [List.map_toArray, List.map_cons, List.map_nil]); first | done | rfl) ?_; (with_reducible refine (impl_areDead.calls k a0_0 a0_1 A1 c1 l1 false _ ?side1 ?side2 A3.out).mono ?_); (case side1 => exact Kd.C_below HR1.out HB.out); (case side2 => exact HC1.out); rintro e w7 ⟨rfl, hb⟩; refine ⟨_, rfl, ?_⟩; replace HB := Aside0.mk (below_step HB.out hb); replace BK := Aside0.mk (blk_below BK.out hb); replace BD := Aside0.mk (blk_below BD.out hb); clear hb; have hlw70 : w7.cell? ⟨gb, 0, none⟩ = some (.int .i64 a0_0) := (blk_cell BK.out 0).trans rfl; have hlw71 : w7.cell? ⟨gb, 1, none⟩ = some (.int .i64 a0_1) := (blk_cell BK.out 1).trans rfl))
    go_ret
    exact ⟨by first | rfl | (simp; done) | (simp [*]; done), (by repeat (first | (with_reducible first | exact HB.out | apply below_alloc | apply pw_below_drewN | apply below_drew1) | exact HB.out))⟩
  | true =>
    replace h : ((impl_has.f k a0_0 a0_1 l2).bind fun h => if h = true then (if l1.length ≤ 9223372036854775807 then (if l2.length ≤ 9223372036854775807 then some (!impl_areLive.any l1 l2) else none) else none) else some false) = some r := h
    obtain ⟨t, A4, h⟩ := Option.bind_eq_some_iff.mp h
    replace A4 := Aside0.mk A4
    cases t with
    | false =>
      obtain rfl := Option.some.inj (show some false = some r by rw [← h]; rfl)
      clear h
      go_enter Try.func87, Try.ntmps87
      go_wp2_with (first | ((with_reducible refine gate_dst (N := 3) rfl ?_); refine box_event ?hg (N := 3) ?hd (cs := #[.int .i64 a0_0, .int .i64 a0_1]) (t := 28) ?hr ?_; (case hd => rfl); (case hg => rfl); (case hr => first | (go_simp; done) | (go_simp; rfl)); intro gb hg w5 hbox hb; replace HB := Aside0.mk (below_step HB.out hb); have BK := Aside0.mk hbox; clear hb hbox hg; have hcz0 : w5.cell? ⟨gb, 0, none⟩ = some (.int .i64 a0_0) := (blk_cell BK.out 0).trans rfl; have hcz1 : w5.cell? ⟨gb, 1, none⟩ = some (.int .i64 a0_1) := (blk_cell BK.out 1).trans rfl; have hfz0 := blk_frozen BK.out 0; have hfz1 := blk_frozen BK.out 1) | ((with_reducible refine gate_dst (N := 4) rfl ?_); refine box_event ?hg (N := 4) ?hd (cs := #[.slice A1 l1.length c1]) (t := 24) ?hr ?_; (case hd => rfl); (case hg => rfl); (case hr => first | (go_simp; done) | (go_simp; rfl)); intro gd hg w6 hbox hb; replace HB := Aside0.mk (below_step HB.out hb); replace BK := Aside0.mk (blk_below BK.out hb); have BD := Aside0.mk hbox; clear hb hbox hg hcz0 hcz1 hfz0 hfz1; have hcz0 : w6.cell? ⟨gb, 0, none⟩ = some (.int .i64 a0_0) := (blk_cell BK.out 0).trans rfl; have hcz1 : w6.cell? ⟨gb, 1, none⟩ = some (.int .i64 a0_1) := (blk_cell BK.out 1).trans rfl; have hcd : w6.cell? ⟨gd, 0, none⟩ = some (.slice A1 l1.length c1) := (blk_cell BD.out 0).trans rfl) | ((with_reducible refine gate_callee (f := 139) rfl ?_); refine goesL_ (some 9) rfl rfl Try.func139 (by kernel_rfl) rfl #[.agg #[.int .i64 a0_0, .int .i64 a0_1], .slice A1 l1.length c1] rfl (by (try simp only [List.map_toArray, List.map_cons, List.map_nil]); first | done | rfl) ?_; (with_reducible refine (impl_areDead.calls k a0_0 a0_1 A1 c1 l1 true _ ?side1 ?side2 A3.out).mono ?_); (case side1 => exact Kd.C_below HR1.out HB.out); (case side2 => exact HC1.out); rintro e w7 ⟨rfl, hb⟩; refine ⟨_, rfl, ?_⟩; replace HB := Aside0.mk (below_step HB.out hb); replace BK := Aside0.mk (blk_below BK.out hb); replace BD := Aside0.mk (blk_below BD.out hb); clear hb; have hlw70 : w7.cell? ⟨gb, 0, none⟩ = some (.int .i64 a0_0) := (blk_cell BK.out 0).trans rfl; have hlw71 : w7.cell? ⟨gb, 1, none⟩ = some (.int .i64 a0_1) := (blk_cell BK.out 1).trans rfl) | (go_at_call 119; (with_reducible refine (impl_has.calls k a0_0 a0_1 A2 c2 l2 false _ ?side1 ?side2 A4.out).mono ?_); (case side1 => exact Kd.C_below HR2.out HB.out); (case side2 => exact HC2.out); rintro e w8 ⟨rfl, hb⟩; replace HB := Aside0.mk (below_step HB.out hb); replace BK := Aside0.mk (blk_below BK.out hb); replace BD := Aside0.mk (blk_below BD.out hb); clear hb; have hdw8 : w8.cell? ⟨gd, 0, none⟩ = some (.slice A1 l1.length c1) := (blk_cell BD.out 0).trans rfl))
      go_ret
      exact ⟨by first | rfl | (simp; done) | (simp [*]; done), (by repeat (first | (with_reducible first | exact HB.out | apply below_alloc | apply pw_below_drewN | apply below_drew1) | exact HB.out))⟩
    | true =>
      replace h : (if l1.length ≤ 9223372036854775807 then (if l2.length ≤ 9223372036854775807 then some (!impl_areLive.any l1 l2) else none) else none) = some r := h
      by_cases q1 : l1.length ≤ 9223372036854775807
      · rw [if_pos q1] at h
        by_cases q2 : l2.length ≤ 9223372036854775807
        · rw [if_pos q2] at h
          have h := Option.some.inj h
          have LM1 := Aside0.mk q1
          have LM2 := Aside0.mk q2
          clear q1 q2
          obtain ⟨b, hb⟩ : ∃ b, b = impl_areLive.any l1 l2 := ⟨_, rfl⟩
          have HAN := Aside0.mk hb
          rw [← hb] at h
          clear hb
          subst h
          go_enter Try.func87, Try.ntmps87
          go_wp2_with (first | ((with_reducible refine gate_dst (N := 3) rfl ?_); refine box_event ?hg (N := 3) ?hd (cs := #[.int .i64 a0_0, .int .i64 a0_1]) (t := 28) ?hr ?_; (case hd => rfl); (case hg => rfl); (case hr => first | (go_simp; done) | (go_simp; rfl)); intro gb hg w5 hbox hb; replace HB := Aside0.mk (below_step HB.out hb); have BK := Aside0.mk hbox; clear hb hbox hg; have hcz0 : w5.cell? ⟨gb, 0, none⟩ = some (.int .i64 a0_0) := (blk_cell BK.out 0).trans rfl; have hcz1 : w5.cell? ⟨gb, 1, none⟩ = some (.int .i64 a0_1) := (blk_cell BK.out 1).trans rfl; have hfz0 := blk_frozen BK.out 0; have hfz1 := blk_frozen BK.out 1) | ((with_reducible refine gate_dst (N := 4) rfl ?_); refine box_event ?hg (N := 4) ?hd (cs := #[.slice A1 l1.length c1]) (t := 24) ?hr ?_; (case hd => rfl); (case hg => rfl); (case hr => first | (go_simp; done) | (go_simp; rfl)); intro gd hg w6 hbox hb; replace HB := Aside0.mk (below_step HB.out hb); replace BK := Aside0.mk (blk_below BK.out hb); have BD := Aside0.mk hbox; clear hb hbox hg hcz0 hcz1 hfz0 hfz1; have hcz0 : w6.cell? ⟨gb, 0, none⟩ = some (.int .i64 a0_0) := (blk_cell BK.out 0).trans rfl; have hcz1 : w6.cell? ⟨gb, 1, none⟩ = some (.int .i64 a0_1) := (blk_cell BK.out 1).trans rfl; have hcd : w6.cell? ⟨gd, 0, none⟩ = some (.slice A1 l1.length c1) := (blk_cell BD.out 0).trans rfl) | ((with_reducible refine gate_callee (f := 139) rfl ?_); refine goesL_ (some 9) rfl rfl Try.func139 (by kernel_rfl) rfl #[.agg #[.int .i64 a0_0, .int .i64 a0_1], .slice A1 l1.length c1] rfl (by (try simp only [List.map_toArray, List.map_cons, List.map_nil]); first | done | rfl) ?_; (with_reducible refine (impl_areDead.calls k a0_0 a0_1 A1 c1 l1 true _ ?side1 ?side2 A3.out).mono ?_); (case side1 => exact Kd.C_below HR1.out HB.out); (case side2 => exact HC1.out); rintro e w7 ⟨rfl, hb⟩; refine ⟨_, rfl, ?_⟩; replace HB := Aside0.mk (below_step HB.out hb); replace BK := Aside0.mk (blk_below BK.out hb); replace BD := Aside0.mk (blk_below BD.out hb); clear hb; have hlw70 : w7.cell? ⟨gb, 0, none⟩ = some (.int .i64 a0_0) := (blk_cell BK.out 0).trans rfl; have hlw71 : w7.cell? ⟨gb, 1, none⟩ = some (.int .i64 a0_1) := (blk_cell BK.out 1).trans rfl) | (go_at_call 119; (with_reducible refine (impl_has.calls k a0_0 a0_1 A2 c2 l2 true _ ?side1 ?side2 A4.out).mono ?_); (case side1 => exact Kd.C_below HR2.out HB.out); (case side2 => exact HC2.out); rintro e w8 ⟨rfl, hb⟩; replace HB := Aside0.mk (below_step HB.out hb); replace BK := Aside0.mk (blk_below BK.out hb); replace BD := Aside0.mk (blk_below BD.out hb); clear hb; have hdw8 : w8.cell? ⟨gd, 0, none⟩ = some (.slice A1 l1.length c1) := (blk_cell BD.out 0).trans rfl) | (go_at_call 140; (with_reducible refine (impl_areLive.anyF gd A1 c1 l1 A2 c2 l2 _ (blk_lt BD.out) ((blk_cell BD.out 0).trans rfl) (Kd.C_below HR1.out HB.out) (Kd.C_below HR2.out HB.out) LM1.out LM2.out).mono ?_); rintro e w9 ⟨rfl, ⟨nd, rfl⟩⟩; rw [← HAN.out]))
          go_ret
          exact ⟨by first | rfl | (simp; done) | (simp [*]; done), (by repeat (first | (with_reducible first | exact HB.out | apply below_alloc | apply pw_below_drewN | apply below_drew1) | exact HB.out))⟩
        · rw [if_neg q2] at h; exact absurd h (by simp)
      · rw [if_neg q1] at h; exact absurd h (by simp)


end Go.Proofs.Ytihhiolflbieaaa.P
