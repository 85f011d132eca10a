-- Texts of this session's own program (wip/dr.py), which runs the kit's printer.
import Derived.Test.YtmpcefcgboljkaaGreatPx0
namespace Go.Proofs.YtmpcefcgboljkaaGreat.P
open Go.RowKit Go.Proofs.YtmpcefcgboljkaaGreatW.PrintWords Go.Proofs.YtmpcefcgboljkaaGreatW.PrintLast Go.Proofs.YtmpcefcgboljkaaGreatW.PrintMore
attribute [local go_sem] max2_int min2_int max_two min_two max_three min_three max_four min_four   -- for this text's walks alone
set_option linter.unusedVariables false
set_option linter.unusedSimpArgs false

/-! ### impl_within: function 72 -/
def impl_within.f (a0 : Int) (a1 : Int) (a2 : Int) : Option (Bool) := if a1 ≤ a0 then (some (decide (a0 ≤ a2))) else (some false)
set_option maxHeartbeats 8000000 in
set_option maxRecDepth 100000 in
theorem impl_within.calls (a0 : Int) (a1 : Int) (a2 : Int) (r : Bool) (w : World) (h : impl_within.f a0 a1 a2 = some r) :
    Calls Tryz.prog 72 #[.int .i64 a0, .int .i64 a1, .int .i64 a2] w fun e w' => e = .returned (.bool r) ∧ Drawn0 w w' := by
  have H : (if a1 ≤ a0 then (some (decide (a0 ≤ a2))) else (some false)) = some r := h
  clear h
  by_cases c4 : a1 ≤ a0
  · rw [if_pos c4] at H
    have c4b0 : decide (a1 ≤ a0) = true := decide_eq_true c4
    clear c4
    obtain rfl := Option.some.inj H
    go_enter Tryz.func72, Tryz.ntmps72
    go_wp2
    go_ret
    exact ⟨by first | rfl | (simp; done) | (simp [*]; done), by repeat (first | exact Drawn0.refl _ | apply Drawn0.step)⟩
  rw [if_neg c4] at H
  have c4b0 : decide (a1 ≤ a0) = false := decide_eq_false c4
  clear c4
  obtain rfl := Option.some.inj H
  go_enter Tryz.func72, Tryz.ntmps72
  go_wp2
  go_ret
  exact ⟨by first | rfl | (simp; done) | (simp [*]; done), by repeat (first | exact Drawn0.refl _ | apply Drawn0.step)⟩

/-! ### impl_IsLock: function 64 -/
def impl_IsLock.f (a0_0 : Int) (a0_1 : Int) : Option (Bool) := (impl_within.f a0_0 1 6).bind fun t102 => (if t102 = true then ((impl_within.f a0_1 2 10).bind fun t103 => (some t103)) else (some false))
set_option maxHeartbeats 8000000 in
set_option maxRecDepth 100000 in
theorem impl_IsLock.calls (a0_0 : Int) (a0_1 : Int) (r : Bool) (w : World) (h : impl_IsLock.f a0_0 a0_1 = some r) :
    Calls Tryz.prog 64 #[.agg #[.int .i64 a0_0, .int .i64 a0_1]] w fun e w' => e = .returned (.bool r) ∧ Below w.heap.size w w' := by
  have hu23 := Tryz.underlying23
  have HB := Aside0.mk (Below.refl w.heap.size w)
  have H : ((impl_within.f a0_0 1 6).bind fun t102 => (if t102 = true then ((impl_within.f a0_1 2 10).bind fun t103 => (some t103)) else (some false))) = some r := h
  clear h
  replace H := Option.bind_eq_some_iff.mp H
  obtain ⟨t102, A20, H⟩ := H
  try dsimp only at H
  have A2 := Aside0.mk A20
  clear A20
  by_cases c3 : t102 = true
  rotate_left
  · replace c3 := Bool.eq_false_iff.mpr c3
    subst c3
    rw [if_neg (show ¬ (false = true) by decide)] at H
    obtain rfl := Option.some.inj H
    go_enter Tryz.func64, Tryz.ntmps64
    go_wp2_with (first | ((with_reducible refine gate_dst (N := 1) rfl ?_); refine box_event ?hg (N := 1) ?hd (cs := #[.int .i64 a0_0, .int .i64 a0_1]) (t := 23) ?hr ?_; (case hd => rfl); (case hg => rfl); (case hr => first | (go_simp; done) | (go_simp; rfl)); intro gb101 hg w7 hbox hb; have n0_ := bsx hb HB; have n1_ := Aside0.mk (hbox); have n2_ := gwx hg HB; have n3_ := n2_; clear HB; have HB := n0_; have BK101 := n1_; have GW101 := n2_; have GE101 := n3_; clear n0_ n1_ n2_ n3_; clear hb hbox hg; have hcz8_0 := cz0 BK101; have hcz8_1 := cz1 BK101; have hfz8_0 := blk_frozen BK101.out 0; have hfz8_1 := blk_frozen BK101.out 1) | ((with_reducible refine gate_callee (f := 72) rfl ?_); refine goesL_ (some 5) rfl rfl Tryz.func72 (by kernel_rfl) rfl #[.int .i64 a0_0, .int .i64 1, .int .i64 6] rfl (by (try simp only [m_1, m_2, m_3]); first | done | rfl | (simp only [m_4, m_5]; rfl)) ?_; (with_reducible refine (impl_within.calls a0_0 1 6 false _ A2.out).mono ?_); rintro e w' ⟨rfl, ⟨nd, rfl⟩⟩; refine ⟨_, rfl, ?_⟩))
    go_ret
    exact ⟨by first | rfl | (simp [errW_none, errW_some] <;> rfl) | (simp [*, errW_none, errW_some] <;> rfl), bB HB⟩

  subst c3
  rw [if_pos rfl] at H
  replace H := Option.bind_eq_some_iff.mp H
  obtain ⟨t103, A40, H⟩ := H
  try dsimp only at H
  have A4 := Aside0.mk A40
  clear A40
  obtain rfl := Option.some.inj H
  go_enter Tryz.func64, Tryz.ntmps64
  go_wp2_with (first | ((with_reducible refine gate_dst (N := 1) rfl ?_); refine box_event ?hg (N := 1) ?hd (cs := #[.int .i64 a0_0, .int .i64 a0_1]) (t := 23) ?hr ?_; (case hd => rfl); (case hg => rfl); (case hr => first | (go_simp; done) | (go_simp; rfl)); intro gb101 hg w5 hbox hb; have n0_ := bsx hb HB; have n1_ := Aside0.mk (hbox); have n2_ := gwx hg HB; have n3_ := n2_; clear HB; have HB := n0_; have BK101 := n1_; have GW101 := n2_; have GE101 := n3_; clear n0_ n1_ n2_ n3_; clear hb hbox hg; have hcz6_0 := cz0 BK101; have hcz6_1 := cz1 BK101; have hfz6_0 := blk_frozen BK101.out 0; have hfz6_1 := blk_frozen BK101.out 1) | ((with_reducible refine gate_callee (f := 72) rfl ?_); refine goesL_ (some 5) rfl rfl Tryz.func72 (by kernel_rfl) rfl #[.int .i64 a0_0, .int .i64 1, .int .i64 6] rfl (by (try simp only [m_1, m_2, m_3]); first | done | rfl | (simp only [m_4, m_5]; rfl)) ?_; (with_reducible refine (impl_within.calls a0_0 1 6 true _ A2.out).mono ?_); rintro e w' ⟨rfl, ⟨nd, rfl⟩⟩; refine ⟨_, rfl, ?_⟩) | (go_at_call 72; (with_reducible refine (impl_within.calls a0_1 2 10 t103 _ A4.out).mono ?_); rintro e w' ⟨rfl, ⟨nd, rfl⟩⟩))
  go_ret
  exact ⟨by first | rfl | (simp [errW_none, errW_some] <;> rfl) | (simp [*, errW_none, errW_some] <;> rfl), bB HB⟩
/-! ### impl_power: function 60 -/
def impl_power.l0 : Nat → Int → Int → Int → Int → Option (Int)
  | 0, _, _, _, _ => none
  | k + 1, x0, x5, x6, x7 => if x7 < x6 then (impl_power.l0 k x0 (wrap64 (x5 * x0)) x6 (wrap64 (x7 + 1))) else (some x5)
def impl_power.f (k : Nat) (a0 : Int) (a1 : Int) : Option (Int) := impl_power.l0 k a0 1 a1 0
theorem impl_power.mono_l : ∀ k, (∀ y0 y1 y2 y3, LeO (impl_power.l0 k y0 y1 y2 y3) (impl_power.l0 (k + 1) y0 y1 y2 y3))
  | 0 => fun _ _ _ _ r h => by simp [impl_power.l0] at h
  | k + 1 => by
    have ih0 := impl_power.mono_l k
    · intro y0 y1 y2 y3
      unfold impl_power.l0
      repeat' first
      | (with_reducible exact ih0 _ _ _ _)
      | (with_reducible exact LeO.refl _)
      | (with_reducible exact LeO.none _)
      | (with_reducible refine LeO.ite ?_ ?_)
      | (with_reducible refine LeO.bind ?_ (fun _ => ?_))
      | exact ih0 _ _ _ _
      | exact LeO.none _
      | refine LeO.ite ?_ ?_
      | refine LeO.bind ?_ (fun _ => ?_)
theorem impl_power.mono : ∀ a0 a1 k, LeO (impl_power.f k a0 a1) (impl_power.f (k + 1) a0 a1) := by
  intro a0 a1 k
  have ih0 := impl_power.mono_l k
  unfold impl_power.f
  repeat' first
      | (with_reducible exact ih0 _ _ _ _)
      | (with_reducible exact LeO.refl _)
      | (with_reducible exact LeO.none _)
      | (with_reducible refine LeO.ite ?_ ?_)
      | (with_reducible refine LeO.bind ?_ (fun _ => ?_))
      | exact ih0 _ _ _ _
      | exact LeO.none _
      | refine LeO.ite ?_ ?_
      | refine LeO.bind ?_ (fun _ => ?_)
set_option maxHeartbeats 8000000 in
set_option maxRecDepth 100000 in
theorem impl_power.calls (k : Nat) (a0 : Int) (a1 : Int) (r : Int) (w : World) (h : impl_power.f k a0 a1 = some r) :
    Calls Tryz.prog 60 #[.int .i64 a0, .int .i64 a1] w fun e w' => e = .returned (.int .i64 r) ∧ Drawn0 w w' := by
  have H : (impl_power.l0 k a0 1 a1 0) = some r := h
  clear h
  have H' := Aside0.mk H
  clear H
  go_enter Tryz.func60, Tryz.ntmps60
  go_wp2
  go_loopg [5, 7] k (fun kq v5 v7 w' => ∃ (x5_1 : Int) (x7_1 : Int), v5 = .int .i64 x5_1 ∧ v7 = .int .i64 x7_1 ∧ Aside0 (impl_power.l0 kq a0 x5_1 a1 x7_1 = some r) ∧ Aside0 (kq ≤ k) ∧ Drawn0 w w')
  case atStart => exact ⟨(1), (0), (by first | rfl | (simp; done) | (simp [*]; done)), (by first | rfl | (simp; done) | (simp [*]; done)), H', ⟨Nat.le_refl _⟩, by repeat (first | exact Drawn0.refl _ | apply Drawn0.step)⟩
  clear H'
  obtain ⟨x5_1, x7_1, rfl, rfl, HA, HK1, ⟨m1, rfl⟩⟩ := hrel
  rcases gk with _ | k1
  · exact absurd HA.out (by simp [impl_power.l0])
  have H := HA.out
  clear HA
  simp only [impl_power.l0] at H
  by_cases c3 : x7_1 < a1
  rotate_left
  · rw [if_neg c3] at H
    have c3b0 : decide (x7_1 < a1) = false := decide_eq_false c3
    clear c3
    obtain rfl := Option.some.inj H
    go_wp2
    go_ret
    exact ⟨by first | rfl | (simp; done) | (simp [*]; done), by repeat (first | exact Drawn0.refl _ | apply Drawn0.step)⟩

  rw [if_pos c3] at H
  have c3b0 : decide (x7_1 < a1) = true := decide_eq_true c3
  clear c3
  have H' := Aside0.mk H
  clear H
  go_wp2
  go_roundg k1
  case measure => have := HK1.out; omega
  case rel => exact ⟨(wrap64 (x5_1 * a0)), (wrap64 (x7_1 + 1)), (by first | rfl | (simp; done) | (simp [*]; done)), (by first | rfl | (simp; done) | (simp [*]; done)), H', ⟨by have := HK1.out; omega⟩, by repeat (first | exact Drawn0.refl _ | apply Drawn0.step)⟩
/-! ### impl_Lock_count: function 65 -/
def impl_Lock_count.f (k : Nat) (a0_0 : Int) (a0_1 : Int) : Option (Int) := (impl_power.f k a0_1 a0_0).bind fun t105 => (some t105)
theorem impl_Lock_count.mono : ∀ a0 a1 k, LeO (impl_Lock_count.f k a0 a1) (impl_Lock_count.f (k + 1) a0 a1) := by
  intro a0 a1 k
  unfold impl_Lock_count.f
  repeat' first
      | (with_reducible exact impl_power.mono _ _ _)
      | (with_reducible exact LeO.refl _)
      | (with_reducible exact LeO.none _)
      | (with_reducible refine LeO.ite ?_ ?_)
      | (with_reducible refine LeO.bind ?_ (fun _ => ?_))
      | exact impl_power.mono _ _ _
      | exact LeO.none _
      | refine LeO.ite ?_ ?_
      | refine LeO.bind ?_ (fun _ => ?_)
set_option maxHeartbeats 8000000 in
set_option maxRecDepth 100000 in
theorem impl_Lock_count.calls (k : Nat) (a0_0 : Int) (a0_1 : Int) (r : Int) (w : World) (h : impl_Lock_count.f k a0_0 a0_1 = some r) :
    Calls Tryz.prog 65 #[.agg #[.int .i64 a0_0, .int .i64 a0_1]] w fun e w' => e = .returned (.int .i64 r) ∧ Below w.heap.size w w' := by
  have hu23 := Tryz.underlying23
  have HB := Aside0.mk (Below.refl w.heap.size w)
  have H : ((impl_power.f k a0_1 a0_0).bind fun t105 => (some t105)) = some r := h
  clear h
  replace H := Option.bind_eq_some_iff.mp H
  obtain ⟨t105, A20, H⟩ := H
  try dsimp only at H
  have A2 := Aside0.mk A20
  clear A20
  obtain rfl := Option.some.inj H
  go_enter Tryz.func65, Tryz.ntmps65
  go_wp2_with (first | ((with_reducible refine gate_dst (N := 1) rfl ?_); refine box_event ?hg (N := 1) ?hd (cs := #[.int .i64 a0_0, .int .i64 a0_1]) (t := 23) ?hr ?_; (case hd => rfl); (case hg => rfl); (case hr => first | (go_simp; done) | (go_simp; rfl)); intro gb104 hg w3 hbox hb; have n0_ := bsx hb HB; have n1_ := Aside0.mk (hbox); have n2_ := gwx hg HB; have n3_ := n2_; clear HB; have HB := n0_; have BK104 := n1_; have GW104 := n2_; have GE104 := n3_; clear n0_ n1_ n2_ n3_; clear hb hbox hg; have hcz4_0 := cz0 BK104; have hcz4_1 := cz1 BK104; have hfz4_0 := blk_frozen BK104.out 0; have hfz4_1 := blk_frozen BK104.out 1) | ((with_reducible refine gate_callee (f := 60) rfl ?_); refine goesL_ (some 7) rfl rfl Tryz.func60 (by kernel_rfl) rfl #[.int .i64 a0_1, .int .i64 a0_0] rfl (by (try simp only [m_1, m_2, m_3]); first | done | rfl | (simp only [m_4, m_5]; rfl)) ?_; (with_reducible refine (impl_power.calls k a0_1 a0_0 t105 _ A2.out).mono ?_); rintro e w' ⟨rfl, ⟨nd, rfl⟩⟩; refine ⟨_, rfl, ?_⟩))
  go_ret
  exact ⟨by first | rfl | (simp [errW_none, errW_some] <;> rfl) | (simp [*, errW_none, errW_some] <;> rfl), bB HB⟩

/-! ### impl_isSmall: function 91 -/
def impl_isSmall.f (k : Nat) (a0_0 : Int) (a0_1 : Int) (a1 : Int) : Option (Bool) := (impl_IsLock.f a0_0 a0_1).bind fun t107 => (if t107 = true then ((impl_Lock_count.f k a0_0 a0_1).bind fun t108 => (some (decide (t108 ≤ a1)))) else (some false))
theorem impl_isSmall.mono : ∀ a0 a1 a2 k, LeO (impl_isSmall.f k a0 a1 a2) (impl_isSmall.f (k + 1) a0 a1 a2) := by
  intro a0 a1 a2 k
  unfold impl_isSmall.f
  repeat' first
      | (with_reducible exact impl_Lock_count.mono _ _ _)
      | (with_reducible exact LeO.refl _)
      | (with_reducible exact LeO.none _)
      | (with_reducible refine LeO.ite ?_ ?_)
      | (with_reducible refine LeO.bind ?_ (fun _ => ?_))
      | exact impl_Lock_count.mono _ _ _
      | exact LeO.none _
      | refine LeO.ite ?_ ?_
      | refine LeO.bind ?_ (fun _ => ?_)
set_option maxHeartbeats 8000000 in
set_option maxRecDepth 100000 in
theorem impl_isSmall.calls (k : Nat) (a0_0 : Int) (a0_1 : Int) (a1 : Int) (r : Bool) (w : World) (h : impl_isSmall.f k a0_0 a0_1 a1 = some r) :
    Calls Tryz.prog 91 #[.agg #[.int .i64 a0_0, .int .i64 a0_1], .int .i64 a1] w fun e w' => e = .returned (.bool r) ∧ Below w.heap.size w w' := by
  have hu23 := Tryz.underlying23
  have HB := Aside0.mk (Below.refl w.heap.size w)
  have H : ((impl_IsLock.f a0_0 a0_1).bind fun t107 => (if t107 = true then ((impl_Lock_count.f k a0_0 a0_1).bind fun t108 => (some (decide (t108 ≤ a1)))) else (some false))) = some r := h
  clear h
  replace H := Option.bind_eq_some_iff.mp H
  obtain ⟨t107, A30, H⟩ := H
  try dsimp only at H
  have A3 := Aside0.mk A30
  clear A30
  by_cases c4 : t107 = true
  rotate_left
  · replace c4 := Bool.eq_false_iff.mpr c4
    subst c4
    rw [if_neg (show ¬ (false = true) by decide)] at H
    obtain rfl := Option.some.inj H
    go_enter Tryz.func91, Tryz.ntmps91
    go_wp2_with (first | ((with_reducible refine gate_dst (N := 2) rfl ?_); refine box_event ?hg (N := 2) ?hd (cs := #[.int .i64 a0_0, .int .i64 a0_1]) (t := 23) ?hr ?_; (case hd => rfl); (case hg => rfl); (case hr => first | (go_simp; done) | (go_simp; rfl)); intro gb106 hg w11 hbox hb; have n0_ := bsx hb HB; have n1_ := Aside0.mk (hbox); have n2_ := gwx hg HB; have n3_ := n2_; clear HB; have HB := n0_; have BK106 := n1_; have GW106 := n2_; have GE106 := n3_; clear n0_ n1_ n2_ n3_; clear hb hbox hg; have hcz12_0 := cz0 BK106; have hcz12_1 := cz1 BK106; have hfz12_0 := blk_frozen BK106.out 0; have hfz12_1 := blk_frozen BK106.out 1) | ((with_reducible refine gate_callee (f := 64) rfl ?_); refine goesL_ (some 6) rfl rfl Tryz.func64 (by kernel_rfl) rfl #[.agg #[.int .i64 a0_0, .int .i64 a0_1]] rfl (by (try simp only [m_1, m_2, m_3]); first | done | rfl | (simp only [m_4, m_5]; rfl)) ?_; (with_reducible refine (impl_IsLock.calls a0_0 a0_1 false _ A3.out).mono ?_); rintro e w13 ⟨rfl, hb⟩; refine ⟨_, rfl, ?_⟩; replace BK106 := bbx hb BK106; replace HB := bsx hb HB; skip; (try clear hb); (try clear hb2); (try clear hk); (try clear hi)))
    go_ret
    exact ⟨by first | rfl | (simp [errW_none, errW_some] <;> rfl) | (simp [*, errW_none, errW_some] <;> rfl), bB HB⟩

  subst c4
  rw [if_pos rfl] at H
  replace H := Option.bind_eq_some_iff.mp H
  obtain ⟨t108, A50, H⟩ := H
  try dsimp only at H
  have A5 := Aside0.mk A50
  clear A50
  obtain rfl := Option.some.inj H
  go_enter Tryz.func91, Tryz.ntmps91
  go_wp2_with (first | ((with_reducible refine gate_dst (N := 2) rfl ?_); refine box_event ?hg (N := 2) ?hd (cs := #[.int .i64 a0_0, .int .i64 a0_1]) (t := 23) ?hr ?_; (case hd => rfl); (case hg => rfl); (case hr => first | (go_simp; done) | (go_simp; rfl)); intro gb106 hg w6 hbox hb; have n0_ := bsx hb HB; have n1_ := Aside0.mk (hbox); have n2_ := gwx hg HB; have n3_ := n2_; clear HB; have HB := n0_; have BK106 := n1_; have GW106 := n2_; have GE106 := n3_; clear n0_ n1_ n2_ n3_; clear hb hbox hg; have hcz7_0 := cz0 BK106; have hcz7_1 := cz1 BK106; have hfz7_0 := blk_frozen BK106.out 0; have hfz7_1 := blk_frozen BK106.out 1) | ((with_reducible refine gate_callee (f := 64) rfl ?_); refine goesL_ (some 6) rfl rfl Tryz.func64 (by kernel_rfl) rfl #[.agg #[.int .i64 a0_0, .int .i64 a0_1]] rfl (by (try simp only [m_1, m_2, m_3]); first | done | rfl | (simp only [m_4, m_5]; rfl)) ?_; (with_reducible refine (impl_IsLock.calls a0_0 a0_1 true _ A3.out).mono ?_); rintro e w8 ⟨rfl, hb⟩; refine ⟨_, rfl, ?_⟩; replace BK106 := bbx hb BK106; replace HB := bsx hb HB; skip; (try clear hb); (try clear hb2); (try clear hk); (try clear hi); have hcz9_0 := cz0 BK106; have hcz9_1 := cz1 BK106; have hfz9_0 := blk_frozen BK106.out 0; have hfz9_1 := blk_frozen BK106.out 1) | (go_at_call 65; (with_reducible refine (impl_Lock_count.calls k a0_0 a0_1 t108 _ A5.out).mono ?_); rintro e w10 ⟨rfl, hb⟩; replace BK106 := bbx hb BK106; replace HB := bsx hb HB; skip; (try clear hb); (try clear hb2); (try clear hk); (try clear hi)))
  go_ret
  exact ⟨by first | rfl | (simp [errW_none, errW_some] <;> rfl) | (simp [*, errW_none, errW_some] <;> rfl), bB HB⟩
/-! ### impl_isRounded: function 50 -/
def impl_isRounded.f (k : Nat) (a0_0 : Int) (a0_1 : Int) : Option (Bool) := (impl_isSmall.f k a0_0 a0_1 1000).bind fun t110 => (some t110)
theorem impl_isRounded.mono : ∀ a0 a1 k, LeO (impl_isRounded.f k a0 a1) (impl_isRounded.f (k + 1) a0 a1) := by
  intro a0 a1 k
  unfold impl_isRounded.f
  repeat' first
      | (with_reducible exact impl_isSmall.mono _ _ _ _)
      | (with_reducible exact LeO.refl _)
      | (with_reducible exact LeO.none _)
      | (with_reducible refine LeO.ite ?_ ?_)
      | (with_reducible refine LeO.bind ?_ (fun _ => ?_))
      | exact impl_isSmall.mono _ _ _ _
      | exact LeO.none _
      | refine LeO.ite ?_ ?_
      | refine LeO.bind ?_ (fun _ => ?_)
set_option maxHeartbeats 8000000 in
set_option maxRecDepth 100000 in
theorem impl_isRounded.calls (k : Nat) (a0_0 : Int) (a0_1 : Int) (r : Bool) (w : World) (h : impl_isRounded.f k a0_0 a0_1 = some r) :
    Calls Tryz.prog 50 #[.agg #[.int .i64 a0_0, .int .i64 a0_1]] w fun e w' => e = .returned (.bool r) ∧ Below w.heap.size w w' := by
  have hu23 := Tryz.underlying23
  have HB := Aside0.mk (Below.refl w.heap.size w)
  have H : ((impl_isSmall.f k a0_0 a0_1 1000).bind fun t110 => (some t110)) = some r := h
  clear h
  replace H := Option.bind_eq_some_iff.mp H
  obtain ⟨t110, A20, H⟩ := H
  try dsimp only at H
  have A2 := Aside0.mk A20
  clear A20
  obtain rfl := Option.some.inj H
  go_enter Tryz.func50, Tryz.ntmps50
  go_wp2_with (first | ((with_reducible refine gate_dst (N := 1) rfl ?_); refine box_event ?hg (N := 1) ?hd (cs := #[.int .i64 a0_0, .int .i64 a0_1]) (t := 23) ?hr ?_; (case hd => rfl); (case hg => rfl); (case hr => first | (go_simp; done) | (go_simp; rfl)); intro gb109 hg w3 hbox hb; have n0_ := bsx hb HB; have n1_ := Aside0.mk (hbox); have n2_ := gwx hg HB; have n3_ := n2_; clear HB; have HB := n0_; have BK109 := n1_; have GW109 := n2_; have GE109 := n3_; clear n0_ n1_ n2_ n3_; clear hb hbox hg; have hcz4_0 := cz0 BK109; have hcz4_1 := cz1 BK109; have hfz4_0 := blk_frozen BK109.out 0; have hfz4_1 := blk_frozen BK109.out 1) | ((with_reducible refine gate_callee (f := 91) rfl ?_); refine goesL_ (some 4) rfl rfl Tryz.func91 (by kernel_rfl) rfl #[.agg #[.int .i64 a0_0, .int .i64 a0_1], .int .i64 1000] rfl (by (try simp only [m_1, m_2, m_3]); first | done | rfl | (simp only [m_4, m_5]; rfl)) ?_; (with_reducible refine (impl_isSmall.calls k a0_0 a0_1 1000 t110 _ A2.out).mono ?_); rintro e w5 ⟨rfl, hb⟩; refine ⟨_, rfl, ?_⟩; replace BK109 := bbx hb BK109; replace HB := bsx hb HB; skip; (try clear hb); (try clear hb2); (try clear hk); (try clear hi)))
  go_ret
  exact ⟨by first | rfl | (simp [errW_none, errW_some] <;> rfl) | (simp [*, errW_none, errW_some] <;> rfl), bB HB⟩

/-! ### impl_text: function 55 -/
def impl_text.l0 : Nat → List Int → List Int → Int → Int → Option (ByteArray)
  | 0, _, _, _, _ => none
  | k + 1, x3, x7, x8, x9 => if x9 < x8 then (if 0 ≤ x9 then (if x9 < (x7.length : Int) then (if x3.length < 140737488355328 then (impl_text.l0 k (x3 ++ [(wrap64 (48 + (rd x7 x9))) % 256]) x7 x8 (wrap64 (x9 + 1))) else (none)) else (none)) else (none)) else (some (strOfNums x3))
def impl_text.f (k : Nat) (l0 : List Int) : Option (ByteArray) := impl_text.l0 k (([] : List Int)) l0 (l0.length : Int) 0
theorem impl_text.mono_l : ∀ k, (∀ y0 y1 y2 y3, LeO (impl_text.l0 k y0 y1 y2 y3) (impl_text.l0 (k + 1) y0 y1 y2 y3))
  | 0 => fun _ _ _ _ r h => by simp [impl_text.l0] at h
  | k + 1 => by
    have ih0 := impl_text.mono_l k
    · intro y0 y1 y2 y3
      unfold impl_text.l0
      repeat' first
      | (with_reducible exact ih0 _ _ _ _)
      | (with_reducible exact LeO.refl _)
      | (with_reducible exact LeO.none _)
      | (with_reducible refine LeO.ite ?_ ?_)
      | (with_reducible refine LeO.bind ?_ (fun _ => ?_))
      | exact ih0 _ _ _ _
      | exact LeO.none _
      | refine LeO.ite ?_ ?_
      | refine LeO.bind ?_ (fun _ => ?_)
theorem impl_text.mono : ∀ a0 k, LeO (impl_text.f k a0) (impl_text.f (k + 1) a0) := by
  intro a0 k
  have ih0 := impl_text.mono_l k
  unfold impl_text.f
  repeat' first
      | (with_reducible exact ih0 _ _ _ _)
      | (with_reducible exact LeO.refl _)
      | (with_reducible exact LeO.none _)
      | (with_reducible refine LeO.ite ?_ ?_)
      | (with_reducible refine LeO.bind ?_ (fun _ => ?_))
      | exact ih0 _ _ _ _
      | exact LeO.none _
      | refine LeO.ite ?_ ?_
      | refine LeO.bind ?_ (fun _ => ?_)
set_option maxHeartbeats 8000000 in
set_option maxRecDepth 100000 in
theorem impl_text.calls (k : Nat) (A0 : Option Addr) (c0 : Nat) (l0 : List Int) (r : ByteArray) (w : World) (hr0 : Kd.C (Kd.int .i64) w A0 l0.length l0) (hc0 : l0.length ≤ c0) (h : impl_text.f k l0 = some r) :
    Calls Tryz.prog 55 #[.slice A0 l0.length c0] w fun e w' => e = .returned (.string r) ∧ Below w.heap.size w w' := by
  have HR0 := Aside0.mk hr0
  have HC0 := Aside0.mk hc0
  clear hr0 hc0
  have HB := Aside0.mk (Below.refl w.heap.size w)
  have H : (impl_text.l0 k (([] : List Int)) l0 (l0.length : Int) 0) = some r := h
  clear h
  obtain ⟨y166, hy166⟩ : ∃ y_ : List Int, y_ = (([] : List Int)) := ⟨_, rfl⟩
  replace H : (impl_text.l0 k y166 l0 (l0.length : Int) 0) = some r := by first | (rw [hy166]; with_reducible exact H) | (have H2_ := (Option.bind_some _ _).symm.trans H; rw [hy166]; with_reducible exact H2_) | (have H2_ := (Option.bind_some _ _).symm.trans H; with_reducible exact H2_) | with_reducible exact H | (rw [hy166]; exact H) | exact H
  have Ny166 := Aside0.mk hy166
  clear hy166
  have H' := Aside0.mk H
  clear H
  go_enter Tryz.func55, Tryz.ntmps55
  go_wp2_with (first | ((with_reducible refine gate_dst (N := 6) rfl ?_); refine Kd.R_lit (Kd.int .u8) _ 5 ?hg (N := 6) ?hd (xs := ([] : List Int)) (inner := []) (ok := fun _ => True) (okp := fun _ => True) ?hr ?hp (fun _ hk => hk) trivial (Below.refl _ _) (Nat.le_refl _) (by simp) ?_; (case hd => rfl); (case hg => rfl); (case hr => first | (go_simp; done) | (go_simp; rfl)); (case hp => exact (Reps.none _ _)); intro v167 w2 ho3 hb hg_ hnew_; clear hg_ hnew_; (first | rw [← Ny166.out] at ho3 | (simp only [Int.reduceToNat] at ho3; rw [← Ny166.out] at ho3)); have n0_ := Aside0.mk (Kd.R_lower ho3 (below_size (bB HB))); have n1_ := bsx hb HB; clear HB; have HO168 := n0_; have HB := n1_; clear n0_ n1_; clear hb ho3))
  go_loopg [3, 9] k (fun kq v3 v9 w' => ∃ (x3_1 : List Int) (x9_1 : Int), v9 = .int .i64 x9_1 ∧ Aside0 (impl_text.l0 kq x3_1 l0 (l0.length : Int) x9_1 = some r) ∧ Aside0 (kq ≤ k) ∧ Aside0 (Kd.R (Kd.int .u8) 5 w' w.heap.size (fun _ => True) v3 x3_1) ∧ Aside0 (Below w.heap.size w w'))
  case atStart => exact ⟨(y166), (0), (by first | rfl | (simp; done) | (simp [*]; done)), H', ⟨Nat.le_refl _⟩, ⟨by (with_reducible repeat (first | apply r_a | apply r_d | apply r_e)); exact HO168.out⟩, ⟨bB HB⟩⟩
  clear H'
  obtain ⟨x3_1, x9_1, rfl, HA, HK1, HO_3, HB⟩ := hrel
  rcases gk with _ | k1
  · exact absurd HA.out (by simp [impl_text.l0])
  have H := HA.out
  clear HA
  simp only [impl_text.l0] at H
  by_cases c4 : x9_1 < (l0.length : Int)
  rotate_left
  · rw [if_neg c4] at H
    have c4b0 : decide (x9_1 < (l0.length : Int)) = false := decide_eq_false c4
    clear c4
    obtain rfl := Option.some.inj H
    have hcv9 := own_string (P := Tryz.prog) Tryz.underlying40 Tryz.underlying5 Tryz.underlying9 (Kd.own_of_R HO_3.out)
    go_wp2
    go_ret
    exact ⟨by first | rfl | (simp [errW_none, errW_some] <;> rfl) | (simp [*, errW_none, errW_some] <;> rfl), bB HB⟩

  rw [if_pos c4] at H
  have c4b0 : decide (x9_1 < (l0.length : Int)) = true := decide_eq_true c4
  clear c4
  by_cases c5 : 0 ≤ x9_1
  rotate_left
  · rw [if_neg c5] at H
    exact absurd H (by simp)
  rw [if_pos c5] at H
  have c5b0 : decide (0 ≤ x9_1) = true := decide_eq_true c5
  clear c5
  by_cases c6 : x9_1 < (l0.length : Int)
  rotate_left
  · rw [if_neg c6] at H
    exact absurd H (by simp)
  rw [if_pos c6] at H
  have c6b0 : decide (x9_1 < (l0.length : Int)) = true := decide_eq_true c6
  clear c6
  by_cases c7 : x3_1.length < 140737488355328
  rotate_left
  · rw [if_neg c7] at H
    exact absurd H (by simp)
  rw [if_pos c7] at H
  have LMc7 := Aside0.mk c7
  clear c7
  obtain ⟨y170, hy170⟩ : ∃ y_ : List Int, y_ = (x3_1 ++ [(wrap64 (48 + (rd l0 x9_1))) % 256]) := ⟨_, rfl⟩
  replace H : (impl_text.l0 k1 y170 l0 (l0.length : Int) (wrap64 (x9_1 + 1))) = some r := by first | (rw [hy170]; with_reducible exact H) | (have H2_ := (Option.bind_some _ _).symm.trans H; rw [hy170]; with_reducible exact H2_) | (have H2_ := (Option.bind_some _ _).symm.trans H; with_reducible exact H2_) | with_reducible exact H | (rw [hy170]; exact H) | exact H
  have Ny170 := Aside0.mk hy170
  clear hy170
  have H' := Aside0.mk H
  clear H
  have p169 : 0 ≤ (x9_1 : Int) := of_decide_eq_true (by first | (with_reducible assumption) | assumption)
  have q169 : x9_1 < (l0.length : Int) := of_decide_eq_true (by first | (with_reducible assumption) | assumption)
  obtain ⟨ad169, e169, hx169_0⟩ := Kd.at_int HR0.out x9_1 p169 q169
  cases e169
  replace hx169_0 := (HB.out.cell (World.block_lt_of_cell? w _ hx169_0)).trans hx169_0
  replace p169 := eq_true p169
  replace q169 := eq_true q169
  go_wp2_with (first | ((with_reducible refine gate_builtin (b := .append) (xs := #[.tmp 13, .tmp 17]) rfl ?_); at_builtin; refine Kd.R_append (Kd.int .u8) (w0 := w) w.heap.size rfl (.tmp 13) (.tmp 17) 40 5 (.int .u8 0) 1 rfl Tryz.underlying40 info5 rfl (by decide) (by omega) u3 x3_1 ((wrap64 (48 + (rd l0 x9_1))) % 256) [.int .u8 ((wrap64 (48 + (rd l0 x9_1))) % 256)] (fun _ => True) (fun _ => False) rfl rfl ?aP (fun _ hk => hk.elim) ?aF ?aO ?aB ?aS ?aL ?_; (case aP => exact rfl); (case aB => exact (bB HB)); (case aF => exact (fun _ _ => trivial)); (case aO => exact (by (with_reducible repeat (first | apply r_a | apply r_d | apply r_e)); exact HO_3.out)); (case aS => exact (below_size (bB HB))); (case aL => have := LMc7.out; omega); intro v171 w8 ho hb hg hat; rw [← Ny170.out] at ho; have n0_ := Aside0.mk (hb); have n1_ := Aside0.mk (ho); clear HB; clear HO_3; have HB := n0_; have HO172 := n1_; clear n0_ n1_; clear ho hb hg hat))
  go_roundg k1
  case measure => have := HK1.out; omega
  case rel => exact ⟨(y170), (wrap64 (x9_1 + 1)), (by first | rfl | (simp; done) | (simp [*]; done)), H', ⟨by have := HK1.out; omega⟩, ⟨by (with_reducible repeat (first | apply r_a | apply r_d | apply r_e)); exact HO172.out⟩, ⟨bB HB⟩⟩
/-! ### impl_Lock_least: function 58 (a text of our own) -/
mutual
/-- The closure: the least words that begin with a word are put behind those that are there. -/
def impl_Lock_least.put : Nat → Int → Int → List ByteArray → List Int → Int → Option (List ByteArray)
  | 0, _, _, _, _, _ => none
  | k + 1, W, D, out, word, p => if (word.length : Int) = W then (if p = 0 then none else (if Int.tmod W p = 0 then (if 0 ≤ p then (if p ≤ (word.length : Int) then ((impl_text.f k (word.take p.toNat)).bind fun t => (if out.length < 8796093022000 then some (out ++ [t]) else none)) else none) else none) else some out)) else (if 0 < (word.length : Int) then (if 0 ≤ wrap64 ((word.length : Int) - p) then (if wrap64 ((word.length : Int) - p) < (word.length : Int) then impl_Lock_least.rep k W D out word p (rd word (wrap64 ((word.length : Int) - p))) (rd word (wrap64 ((word.length : Int) - p))) else none) else none) else impl_Lock_least.rep k W D out word p 0 0)
def impl_Lock_least.rep : Nat → Int → Int → List ByteArray → List Int → Int → Int → Int → Option (List ByteArray)
  | 0, _, _, _, _, _, _, _ => none
  | k + 1, W, D, out, word, p, first, d => if d < D then (if word.length < 17592186044000 then ((impl_Lock_least.put k W D out (word ++ [d]) (if (word.length : Int) = 0 then wrap64 ((word.length : Int) + 1) else if d > first then wrap64 ((word.length : Int) + 1) else p)).bind fun o => impl_Lock_least.rep k W D o word p first (wrap64 (d + 1))) else none) else some out
end
def impl_Lock_least.f (k : Nat) (a0_0 : Int) (a0_1 : Int) (a1 : Int) : Option (List ByteArray) := impl_Lock_least.put k a1 a0_1 [] [] 1
theorem impl_Lock_least.mono_l : ∀ k, (∀ W D out word p, LeO (impl_Lock_least.put k W D out word p) (impl_Lock_least.put (k + 1) W D out word p)) ∧ (∀ W D out word p first d, LeO (impl_Lock_least.rep k W D out word p first d) (impl_Lock_least.rep (k + 1) W D out word p first d))
  | 0 => ⟨fun _ _ _ _ _ r h => by simp [impl_Lock_least.put] at h, fun _ _ _ _ _ _ _ r h => by simp [impl_Lock_least.rep] at h⟩
  | k + 1 => by
    obtain ⟨ih0, ih1⟩ := impl_Lock_least.mono_l k
    constructor
    · intro W D out word p
      unfold impl_Lock_least.put
      repeat' first
      | (with_reducible exact ih1 _ _ _ _ _ _ _)
      | (with_reducible exact impl_text.mono _ _)
      | (with_reducible exact LeO.refl _)
      | (with_reducible exact LeO.none _)
      | (with_reducible refine LeO.ite ?_ ?_)
      | (with_reducible refine LeO.bind ?_ (fun _ => ?_))
    · intro W D out word p first d
      unfold impl_Lock_least.rep
      repeat' first
      | (with_reducible exact ih0 _ _ _ _ _)
      | (with_reducible exact ih1 _ _ _ _ _ _ _)
      | (with_reducible exact LeO.refl _)
      | (with_reducible exact LeO.none _)
      | (with_reducible refine LeO.ite ?_ ?_)
      | (with_reducible refine LeO.bind ?_ (fun _ => ?_))
theorem impl_Lock_least.mono : ∀ a0 a1 a2 k, LeO (impl_Lock_least.f k a0 a1 a2) (impl_Lock_least.f (k + 1) a0 a1 a2) := fun _ _ _ k => (impl_Lock_least.mono_l k).1 _ _ _ _ _
/-- A call of a function value that lies in a slot. -/
theorem impl_Lock_least.goesC {P : Program} {ops : Array Oper} {Q : Exit → Act → World → Prop} {oi : Oper} {N : Option Tmp} {a : Act} {w : World} {K : Act → World → Prop} {f : FuncId} {fn : Func} {as_ : Array Operand} {ts : Array TypeId} (t : Tmp) (caps args : Array Value) (hf : P.funcs[f]? = some fn) (hname : (fn.name == "runtime.NumGoroutine") = false) (hb : fn.body.isSome = true)
    (hw : Region.wanted oi (yielded ops a.tmps) = true) (hN : oi.dst = N) (hop : oi.op = .call { callee := .value (.tmp t), args := as_, argTypes := ts }) (hcal : a.eval (.tmp t) = .func (.func f) #[] caps) (hargs : as_.map a.eval = args)
    (h : Calls P f (args ++ caps) w fun e w' => ∃ v, e = .returned v ∧ K (a.put N v) w') : if Region.wanted oi (yielded ops a.tmps) = true then Oper.wp P oi a w K Q else K (a.put N undef) w := by
  refine call_ f (args ++ caps) hw hN ?_ h
  have he := enters_ hf hname hb (args ++ caps) w
  unfold execOp
  simp [hop, resolve, Deferred.ofValue, invoke, hcal, hargs, he]
theorem impl_Lock_least.goesLC {P : Program} {ops : Array Oper} {Q : Exit → Act → World → Prop} {rest : List Oper} {oi : Oper} {a : Act} {w : World} (N : Option Tmp) (hd : oi.dst = N) (hg : oi.guard = none) {f : FuncId} {fn : Func} {as_ : Array Operand} {ts : Array TypeId} (t : Tmp) (caps args : Array Value) (hf : P.funcs[f]? = some fn) (hname : (fn.name == "runtime.NumGoroutine") = false) (hb : fn.body.isSome = true)
    (hop : oi.op = .call { callee := .value (.tmp t), args := as_, argTypes := ts }) (hcal : a.eval (.tmp t) = .func (.func f) #[] caps) (hargs : as_.map a.eval = args)
    (h : Calls P f (args ++ caps) w fun e w' => ∃ v, e = .returned v ∧ wpList P ops Q rest (a.put N v) w') : wpList P ops Q (oi :: rest) a w := by
  refine wpList_plain hg fun K hK => ?_
  have he := enters_ hf hname hb (args ++ caps) w
  have hrun : (execOp a.eval oi).run P w = .ok (.enter f (args ++ caps)) w := by
    unfold execOp
    simp [hop, resolve, Deferred.ofValue, invoke, hcal, hargs, he]
  unfold Oper.wp
  rw [hrun, Oper.upon_enter]
  refine h.mono fun e w'' hh => ?_
  obtain ⟨v, rfl, hk⟩ := hh
  subst hd
  exact hK _ _ hk
/-- A row of numbers stays where only the words' list is written. -/
theorem impl_Lock_least.keepW {w w1 : World} {g : Nat} {v vo : Value} {B B' : Nat} {ok ok' : Nat → Prop} {xs : List Int} {out : List ByteArray} {cs : Array Value} (HW : Kd.R (Kd.int .i64) 3 w B ok v xs) (hg : w.heap[g]? = some (.cells cs 26 (0, 0))) (HO : Kd.R Kd.string 9 w B' ok' vo out) (hk : KeepBut w w1 g vo.ownBlock) : Kd.R (Kd.int .i64) 3 w1 B ok v xs := by
  refine Kd.R_mono (Kd.R_move (Kd.R_bound HW) (fun k hk' => ?_)) (fun _ h => h.1)
  obtain ⟨_, _, hlt, q, hq, cells, hc⟩ := hk'
  obtain rfl : q = 3 := by simpa [Kd.int, Kd.scalar] using hq
  refine hk.2 k hlt ?_ ?_
  · rintro rfl
    rw [hc] at hg
    injection hg with hg
    injection hg with _ hg
    exact absurd hg (by decide)
  · intro e
    exact Kd.R_ne HO hc (by decide) e
set_option maxHeartbeats 16000000 in
set_option maxRecDepth 100000 in
theorem impl_Lock_least.put_calls (gw go gl gp : Nat) (X W D : Int) (w0 : World) (hgo : w0.heap.size ≤ go) : ∀ (k : Nat) (out : List ByteArray) (word : List Int) (p : Int) (r : List ByteArray) (w : World) (vo : Value) (Aw : Option Addr) (cw : Nat)
    (_hB : Below w0.heap.size w0 w) (_hw : w.heap[gw]? = some (.cells #[.int .i64 W] 3 (0, 0))) (_ho : w.heap[go]? = some (.cells #[vo] 26 (0, 0))) (_hl : w.heap[gl]? = some (.cells #[.int .i64 X, .int .i64 D] 23 (0, 0)))
    (_hp : w.heap[gp]? = some (.cells #[(.func (.func 94) #[] #[.pointer (some ⟨gw, 0, none⟩), .pointer (some ⟨go, 0, none⟩), .pointer (some ⟨gl, 0, none⟩), .pointer (some ⟨gp, 0, none⟩)])] 89 (0, 0))) (_HO : Kd.R Kd.string 9 w w0.heap.size (fun _ => True) vo out) (_HW : Kd.R (Kd.int .i64) 3 w w0.heap.size (fun _ => True) (.slice Aw word.length cw) word) (_h : impl_Lock_least.put k W D out word p = some r),
    Calls Tryz.prog 94 (#[.slice Aw word.length cw, .int .i64 p] ++ #[.pointer (some ⟨gw, 0, none⟩), .pointer (some ⟨go, 0, none⟩), .pointer (some ⟨gl, 0, none⟩), .pointer (some ⟨gp, 0, none⟩)]) w fun e w' => e = .returned (.tuple #[]) ∧ ∃ vo' : Value, w'.heap[go]? = some (.cells #[vo'] 26 (0, 0)) ∧ Kd.R Kd.string 9 w' w0.heap.size (fun _ => True) vo' r ∧ Below w0.heap.size w0 w' ∧ KeepBut w w' go vo.ownBlock ∧ (vo'.ownBlock = vo.ownBlock ∨ ∃ b, vo'.ownBlock = some b ∧ w.heap.size ≤ b) := by
  intro k
  induction k using Nat.strongRecOn with
  | _ k ih =>
  intro out word p r w vo Aw cw hB hw_ ho_ hl_ hp_ HO HW h
  cases k with
  | zero => exact absurd h (by simp [impl_Lock_least.put])
  | succ k =>
  have hsz : w0.heap.size ≤ w.heap.size := hB.size
  replace HB := Aside0.mk hB
  replace BKw := Aside0.mk hw_
  replace BKo := Aside0.mk ho_
  replace BKl := Aside0.mk hl_
  replace BKp := Aside0.mk hp_
  replace HO := Aside0.mk HO
  replace HW := Aside0.mk HW
  clear hB ho_ hp_
  have hzw : w.cell? ⟨gw, 0, none⟩ = some (.int .i64 W) := (blk_cell hw_ 0).trans rfl
  clear hw_
  simp only [impl_Lock_least.put] at h
  by_cases c0 : (word.length : Int) = W
  · rw [if_pos c0] at h
    have c0b : ((word.length : Int) == W) = true := beq_iff_eq.mpr c0
    by_cases c1 : p = 0
    · rw [if_pos c1] at h; exact absurd h (by simp)
    rw [if_neg c1] at h
    have c1b0 : (p == 0) = false := beq_eq_false_iff_ne.mpr c1
    have c1b1 : (p != 0) = true := bne_iff_ne.mpr c1
    by_cases c2 : Int.tmod W p = 0
    · rw [if_pos c2] at h
      have c2b : (Int.tmod W p == 0) = true := beq_iff_eq.mpr c2
      by_cases c3 : 0 ≤ p
      · rw [if_pos c3] at h
        by_cases c4 : p ≤ (word.length : Int)
        · rw [if_pos c4] at h
          obtain ⟨t, ht, h⟩ := Option.bind_eq_some_iff.mp h
          by_cases c5 : out.length < 8796093022000
          · rw [if_pos c5] at h
            have HR := Aside0.mk (Option.some.inj h)
            clear h
            have LM := Aside0.mk c5
            obtain ⟨yw, hyw⟩ : ∃ y_ : List Int, y_ = word.take p.toNat := ⟨_, rfl⟩
            rw [← hyw] at ht
            have HT := Aside0.mk ht
            have hpl : p.toNat ≤ word.length := by omega
            have hlen : yw.length = p.toNat := by rw [hyw, List.length_take]; omega
            obtain ⟨i0, hi0, _, hsz0, _⟩ := info_parts info3
            have hcut := cut_to (P := Tryz.prog) 57 3 .i64 Tryz.underlying57 hi0 Aw word.length cw p c3 c4 (Kd.R_reads' HW.out).2.1
            rw [← hlen] at hcut
            clear ht c5 c0 c2 hi0 hsz0
            go_enter Tryz.func94, Tryz.ntmps94
            go_wp2
            refine start_ (n := 8) (S := fun w' => w'.cell? ⟨go, 0, none⟩ = some vo) (ds := [7]) #[false, false, false, false, false, false, false, false] (by kernel_rfl) rfl rfl (((blk_cell BKo.out 0).trans rfl)) (fun hHeld => ?_)
            have HBr := Aside0.mk (below_drew1 (Below.refl w.heap.size w))
            replace BKo : Aside0 (w.drew.heap[go]? = some (.cells #[vo] 26 (0, 0))) := ⟨BKo.out⟩
            replace HO := Aside0.mk (Kd.R_drew HO.out)
            replace HW := Aside0.mk (Kd.R_drew HW.out)
            generalize w.drew = wd at HBr BKo HO HW hHeld ⊢
            refine pure_ (i := 1) (N := some 20) (v := ?_) (a' := ?_) #[false, true, false, false, false, false, false, false] rfl rfl (by kernel_rfl) (fun _ _ _ h => h) (Or.inl ⟨by rfl, ?_⟩) ?_ ?_
            rotate_left
            · intro w'
              go_simp
              with_reducible rfl
            rotate_left
            · simp only [Act.put, List.setIfInBounds_toArray, List.set_cons_zero, List.set_cons_succ, i64_w, i32_w]
              rfl
            refine pure_ (i := 2) (N := some 21) (v := ?_) (a' := ?_) #[false, true, true, false, false, false, false, false] rfl rfl (by kernel_rfl) (fun _ _ _ h => h) (Or.inl ⟨by rfl, ?_⟩) ?_ ?_
            rotate_left
            · intro w'
              go_simp
              with_reducible rfl
            rotate_left
            · simp only [Act.put, List.setIfInBounds_toArray, List.set_cons_zero, List.set_cons_succ, i64_w, i32_w]
              rfl
            refine pure_ (i := 3) (N := some 22) (v := ?_) (a' := ?_) #[false, true, true, true, false, false, false, false] rfl rfl (by kernel_rfl) (fun _ _ _ h => h) (Or.inl ⟨by rfl, ?_⟩) ?_ ?_
            rotate_left
            · intro w'
              go_simp
              with_reducible rfl
            rotate_left
            · simp only [Act.put, List.setIfInBounds_toArray, List.set_cons_zero, List.set_cons_succ, i64_w, i32_w]
              rfl
            refine take_ (i := 0) (N := some 19) (v := ?_) (a' := ?_) #[true, true, true, true, false, false, false, false] rfl rfl (by kernel_rfl) (fun _ _ _ h => h) (Or.inl ⟨by rfl, ?_⟩) hHeld ?_ ?_
            rotate_left
            · intro w' s0
              go_simp
              with_reducible rfl
            rotate_left
            · simp only [Act.put, List.setIfInBounds_toArray, List.set_cons_zero, List.set_cons_succ, i64_w, i32_w]
              rfl
            refine one_ (i := 4) (N := some 23) #[true, true, true, true, true, false, false, false] rfl rfl (by kernel_rfl) (by decide) (fun K hK => ?_)
            refine goes_ Tryz.func55 (by kernel_rfl) rfl #[.slice Aw yw.length cw] (by rfl) rfl rfl (by (try simp only [List.map_toArray, List.map_cons, List.map_nil]); first | done | rfl | (rw [hlen]; rfl)) ?_
            with_reducible refine (impl_text.calls k Aw cw yw t _ ?side1 ?side2 HT.out).mono ?_
            (case side1 => rw [hyw]; exact Kd.C_take (Kd.R_reads' HW.out).2.2 hpl)
            (case side2 => have := (Kd.R_reads' HW.out).2.1; omega)
            rintro e w3 ⟨rfl, hb⟩
            refine ⟨_, rfl, ?_⟩
            replace BKo := Aside0.mk (blk_below BKo.out hb)
            replace HO := Aside0.mk (Kd.R_below HO.out hb)
            replace HBr := Aside0.mk (below_step HBr.out hb)
            clear hb
            refine hK.out _ _ (((blk_cell BKo.out 0).trans rfl)) (fun hHeld => ?_)
            clear hK K
            refine norm_ (a' := ?_) ?_ ?_
            rotate_left
            · show Act.put _ (some 23) _ = _
              simp only [Act.put, List.setIfInBounds_toArray, List.set_cons_zero, List.set_cons_succ, i64_w, i32_w]
              rfl
            refine one_ (i := 5) (N := some 24) #[true, true, true, true, true, true, false, false] rfl rfl (by kernel_rfl) (by decide) (fun K hK => ?_)
            refine Kd.R_lit_step Kd.string _ 9 ?hg (N := 24) ?hd (xs := ([t] : List ByteArray)) (inner := [.string t]) (ok := fun _ => True) (okp := fun _ => True) ?hr ?hp (fun _ hk => hk) trivial (Below.refl _ _) (Nat.le_refl _) (by simp) ?_; (case hd => rfl); (case hg => rfl); (case hr => first | (go_simp; done) | (go_simp; rfl)); (case hp => exact (Reps.one (show Kd.M Kd.string _ _ _ t [.string t] from rfl) (Reps.none _ _)))
            intro v4 w4 ho4 hb hg_ hnew_
            clear hg_ hnew_
            have HL := Aside0.mk (Kd.R_lower (Kd.R_new' ho4 (Kd.R_lt HO.out)) (Nat.le_trans hsz HBr.out.size))
            replace HO := Aside0.mk (Kd.R_elder' HO.out (Kd.R_base ho4) hb)
            replace BKo := Aside0.mk (blk_below BKo.out hb)
            replace HBr := Aside0.mk (below_step HBr.out hb)
            clear hb ho4
            obtain ⟨A4, c4, e4⟩ := Kd.R_slice HL.out
            subst e4
            refine hK.out _ _ (((blk_cell BKo.out 0).trans rfl)) (fun hHeld => ?_)
            clear hK K
            refine norm_ (a' := ?_) ?_ ?_
            rotate_left
            · show Act.put _ (some 24) _ = _
              simp only [Act.put, List.setIfInBounds_toArray, List.set_cons_zero, List.set_cons_succ, i64_w, i32_w]
              rfl
            refine one_ (i := 6) (N := some 25) #[true, true, true, true, true, true, true, false] rfl rfl (by kernel_rfl) (by decide) (fun K hK => ?_)
            refine Kd.R_append_rows_step Kd.string (w0 := w0) w0.heap.size (by rfl) (.tmp 19) (.tmp 24) 26 9 (.string ⟨#[]⟩) 16 rfl Tryz.underlying26 info9 rfl (by decide) (by omega) vo out [t] _ _ _ (fun k_ => some k_ ≠ (.slice A4 [t].length c4 : Value).ownBlock) (fun _ => False) rfl rfl ?aO ?aR (fun _ _ h => h) (fun _ h => h.elim) ?aF ?aB ?aS ?aL ?_
            (case aR => exact (Kd.R_reads' HL.out).2.2)
            (case aB => exact below_then HB.out hsz HBr.out)
            (case aF => exact (fun k_ hk => Kd.fresh' (Kd.R_lt HL.out) k_ hk))
            (case aO => exact Kd.R_mono HO.out (fun _ hk => hk.2))
            (case aS => exact Nat.le_trans hsz HBr.out.size)
            (case aL => have := LM.out; simp only [List.length_cons, List.length_nil]; omega)
            intro v5 w5 ho5 hb5 hg5 hat5
            rw [HR.out] at ho5
            obtain ⟨A5, c5_, e5_⟩ := Kd.R_slice ho5
            subst e5_
            replace BKo := Aside0.mk (blk_grown BKo.out hg5 (Kd.R_ne HO.out BKo.out (by decide)))
            refine hK.out _ _ (((blk_cell BKo.out 0).trans rfl)) (fun hHeld => ?_)
            clear hK K
            refine norm_ (a' := ?_) ?_ ?_
            rotate_left
            · show Act.put _ (some 25) _ = _
              simp only [Act.put, List.setIfInBounds_toArray, List.set_cons_zero, List.set_cons_succ, i64_w, i32_w]
              rfl
            refine last_ (i := 7) (N := none) #[true, true, true, true, true, true, true, true] rfl rfl (by kernel_rfl) (by decide) (fun K hK => ?_)
            refine skip_ (w1 := ?_) (by rfl) rfl ?_ ?_
            rotate_left
            · have hc5 : w5.cell? ⟨go, 0, none⟩ = some vo := (blk_cell BKo.out 0).trans rfl
              have hf5 := blk_frozen BKo.out 0
              go_simp
              rfl
            refine hK.out _ _ ?_
            clear hK K
            refine done_ (by kernel_rfl) ?_
            try go_wp2
            (try simp only [Exit.inBlock, Exit.then]); (first | refine bodyPost_ret (results_none rfl _ _ _) rfl ?_ | refine bodyPost_end (results_none rfl _ _ _) rfl ?_)
            refine ⟨rfl, _, blk_set BKo.out 0 _, ?_, ?_, ?_, ?_⟩
            · exact Kd.R_mono (Kd.R_set ho5 BKo.out (by decide) 0 _) (fun _ _ => trivial)
            · exact hb5.setCell hgo _
            · exact ((KeepBut.of_below HBr.out go _).trans (KeepBut.of_grown hg5 go) (Or.inl rfl)).set_ 0 _
            · rcases hat5 with e5 | ⟨b, e5, hb_⟩
              · exact Or.inl e5
              · exact Or.inr ⟨b, e5, Nat.le_trans HBr.out.size hb_⟩
          · rw [if_neg c5] at h; exact absurd h (by simp)
        · rw [if_neg c4] at h; exact absurd h (by simp)
      · rw [if_neg c3] at h; exact absurd h (by simp)
    · rw [if_neg c2] at h
      have c2b : (Int.tmod W p == 0) = false := beq_eq_false_iff_ne.mpr c2
      obtain rfl := Option.some.inj h
      clear c0 c2
      go_enter Tryz.func94, Tryz.ntmps94
      go_wp2
      (try simp only [Exit.inBlock, Exit.then]); (first | refine bodyPost_ret (results_none rfl _ _ _) rfl ?_ | refine bodyPost_end (results_none rfl _ _ _) rfl ?_)
      exact ⟨rfl, vo, BKo.out, HO.out, HB.out, KeepBut.refl _ _ _, Or.inl rfl⟩
  · rw [if_neg c0] at h
    have c0b : ((word.length : Int) == W) = false := beq_eq_false_iff_ne.mpr c0
    clear c0
    by_cases c1 : 0 < (word.length : Int)
    · rw [if_pos c1] at h
      have c1b : decide ((word.length : Int) > 0) = true := decide_eq_true c1
      have c1n : 0 < word.length := by omega
      have c1c : ((word.length : Int) == 0) = false := beq_eq_false_iff_ne.mpr (by omega)
      have C1D : Aside0 (¬ (word.length : Int) = 0) := ⟨by omega⟩
      by_cases c2 : 0 ≤ wrap64 ((word.length : Int) - p)
      · rw [if_pos c2] at h
        by_cases c3 : wrap64 ((word.length : Int) - p) < (word.length : Int)
        · rw [if_pos c3] at h
          obtain ⟨fi, hfi⟩ : ∃ i_ : Int, i_ = rd word (wrap64 ((word.length : Int) - p)) := ⟨_, rfl⟩
          rw [← hfi] at h
          have H' := Aside0.mk h
          clear h
          obtain ⟨ad, e_, hx⟩ := Kd.at_int (Kd.R_reads' HW.out).2.2 (wrap64 ((word.length : Int) - p)) c2 c3
          cases e_
          rw [← hfi] at hx
          clear hfi
          replace c2 := eq_true c2
          replace c3 := eq_true c3
          clear c1
          go_enter Tryz.func94, Tryz.ntmps94
          go_wp2
          go_loopg [9] k (fun kq v9 w' => ∃ (x9 : Int) (x3 : List ByteArray) (vr : Value), v9 = .int .i64 x9 ∧ Aside0 (impl_Lock_least.rep kq W D x3 word p fi x9 = some r) ∧ Aside0 (kq ≤ k) ∧ Aside0 (w'.heap[go]? = some (.cells #[vr] 26 (0, 0))) ∧ Aside0 (Kd.R Kd.string 9 w' w0.heap.size (fun _ => True) vr x3) ∧ Aside0 (Below w0.heap.size w0 w') ∧ Aside0 (KeepBut w w' go vo.ownBlock) ∧ Aside0 (vr.ownBlock = vo.ownBlock ∨ ∃ b, vr.ownBlock = some b ∧ w.heap.size ≤ b))
          case atStart => exact ⟨fi, out, vo, (by first | rfl | (simp; done) | (simp [*]; done)), H', ⟨Nat.le_refl _⟩, BKo, HO, HB, ⟨KeepBut.refl _ _ _⟩, ⟨Or.inl rfl⟩⟩
          case round =>
            clear H'
            try clear p2
            obtain ⟨x9, x3, vr, rfl, HA, HK1, BKr, HOr, HBw, HKB, HAT⟩ := hrel
            replace BKw := Aside0.mk (KeepBut.blk HKB.out BKw.out (blk_ne BKw.out BKo.out (by decide)) (Kd.R_ne HO.out BKw.out (by decide)))
            replace BKl := Aside0.mk (KeepBut.blk HKB.out BKl.out (blk_ne BKl.out BKo.out (by decide)) (Kd.R_ne HO.out BKl.out (by decide)))
            replace BKp := Aside0.mk (KeepBut.blk HKB.out BKp.out (blk_ne BKp.out BKo.out (by decide)) (Kd.R_ne HO.out BKp.out (by decide)))
            replace HW := Aside0.mk (impl_Lock_least.keepW HW.out BKo.out HO.out HKB.out)
            replace BKo := BKr
            replace HO := HOr
            replace HB := HBw
            clear BKr HOr HBw
            have hszr : w0.heap.size ≤ wr.heap.size := HB.out.size
            have hzl : wr.cell? ⟨gl, 1, none⟩ = some (.int .i64 D) := (blk_cell BKl.out 1).trans rfl
            cases gk with
            | zero => exact absurd HA.out (by simp [impl_Lock_least.rep])
            | succ kq =>
              have H := HA.out
              clear HA
              simp only [impl_Lock_least.rep] at H
              by_cases c7 : x9 < D
              · rw [if_pos c7] at H
                have c7b : decide (x9 < D) = true := decide_eq_true c7
                clear c7
                by_cases c8 : word.length < 17592186044000
                · rw [if_pos c8] at H
                  have LM := Aside0.mk c8
                  clear c8
                  rw [if_neg C1D.out] at H
                  by_cases c9 : x9 > fi
                  · rw [if_pos c9] at H
                    have c9b : decide (x9 > fi) = true := decide_eq_true c9
                    clear c9
                    obtain ⟨o3, HP, H⟩ := Option.bind_eq_some_iff.mp H
                    replace HP : impl_Lock_least.put kq W D x3 (word ++ [x9]) (wrap64 ((word.length : Int) + 1)) = some o3 := by first | exact HP | (rw [if_pos (show ((([] : List Int).length : Nat) : Int) = 0 from rfl), show wrap64 ((([] : List Int).length : Nat) + 1 : Int) = 1 from by simp [wrap64]] at HP; exact HP)
                    obtain ⟨y61, hy61⟩ : ∃ y_ : List Int, y_ = word ++ [x9] := ⟨_, rfl⟩
                    rw [← hy61] at HP
                    have NY := Aside0.mk hy61
                    clear hy61
                    replace HP := Aside0.mk HP
                    have H' := Aside0.mk H
                    clear H
                    go_wp2
                    refine start_ (n := 9) (S := fun w' => w'.cell? ⟨gp, 0, none⟩ = some (.func (.func 94) #[] #[.pointer (some ⟨gw, 0, none⟩), .pointer (some ⟨go, 0, none⟩), .pointer (some ⟨gl, 0, none⟩), .pointer (some ⟨gp, 0, none⟩)])) (ds := [8]) #[false, false, false, false, false, false, false, false, false] (by kernel_rfl) rfl rfl (((blk_cell BKp.out 0).trans rfl)) (fun hHeld => ?_)
                    have HBr := Aside0.mk (below_drew1 (Below.refl wr.heap.size wr))
                    generalize wr.drew = wd at HBr hHeld ⊢
                    refine pure_ (i := 2) (N := some 57) (v := ?_) (a' := ?_) #[false, false, true, false, false, false, false, false, false] rfl rfl (by kernel_rfl) (fun _ _ _ h => h) (Or.inl ⟨by rfl, ?_⟩) ?_ ?_
                    rotate_left
                    · intro w'
                      go_simp
                      with_reducible rfl
                    rotate_left
                    · simp only [Act.put, List.setIfInBounds_toArray, List.set_cons_zero, List.set_cons_succ, i64_w, i32_w]
                      rfl
                    refine pure_ (i := 4) (N := some 59) (v := ?_) (a' := ?_) #[false, false, true, false, true, false, false, false, false] rfl rfl (by kernel_rfl) (fun _ _ _ h => h) (Or.inl ⟨by rfl, ?_⟩) ?_ ?_
                    rotate_left
                    · intro w'
                      go_simp
                      with_reducible rfl
                    rotate_left
                    · simp only [Act.put, List.setIfInBounds_toArray, List.set_cons_zero, List.set_cons_succ, i64_w, i32_w]
                      rfl
                    refine pure_ (i := 7) (N := some 62) (v := ?_) (a' := ?_) #[false, false, true, false, true, false, false, true, false] rfl rfl (by kernel_rfl) (fun _ _ _ h => h) (Or.inl ⟨by rfl, ?_⟩) ?_ ?_
                    rotate_left
                    · intro w'
                      go_simp
                      with_reducible rfl
                    rotate_left
                    · simp only [Act.put, List.setIfInBounds_toArray, List.set_cons_zero, List.set_cons_succ, i64_w, i32_w]
                      rfl
                    refine take_ (i := 0) (N := some 55) (v := ?_) (a' := ?_) #[true, false, true, false, true, false, false, true, false] rfl rfl (by kernel_rfl) (fun _ _ _ h => h) (Or.inl ⟨by rfl, ?_⟩) hHeld ?_ ?_
                    rotate_left
                    · intro w' s0
                      go_simp
                      with_reducible rfl
                    rotate_left
                    · simp only [Act.put, List.setIfInBounds_toArray, List.set_cons_zero, List.set_cons_succ, i64_w, i32_w]
                      rfl
                    refine join_ (σ := Value × Value × Value) 2 #[true, true, true, true, true, true, false, true, false] (fun s => [(56, s.1), (58, s.2.1), (60, s.2.2)]) (fun s w' => Kd.R (Kd.int .i64) 3 w' wr.heap.size (fun k_ => some k_ ≠ s.2.2.ownBlock) s.2.1 word ∧ Kd.R (Kd.int .i64) 3 w' wr.heap.size (fun k_ => some k_ ≠ s.2.1.ownBlock) s.2.2 [x9] ∧ Below wr.heap.size wr w') ?_ ?_
                    rotate_left
                    · intro hCont
                      refine two_ (i := 1) (j := 5) (Ni := some 56) (Nj := some 60) #[true, true, true, false, true, false, false, true, false] #[true, false, true, false, true, true, false, true, false] rfl rfl rfl rfl (by kernel_rfl) (by decide) (by decide) (fun K hK => ?_) (fun K hK => ?_)
                      · skip
                        refine Kd.R_lit_step (Kd.int .i64) _ 3 ?hg (N := 56) ?hd (xs := ([] : List Int)) (inner := []) (ok := fun _ => True) (okp := fun _ => True) ?hr ?hp (fun _ hk => hk) trivial (Below.refl _ _) (Nat.le_refl _) (by simp) ?_; (case hd => rfl); (case hg => rfl); (case hr => first | (go_simp; done) | (go_simp; rfl)); (case hp => exact Reps.none _ _)
                        intro v56 w56 ho hb hg_ hnew_
                        clear hg_ hnew_
                        have H56 := Aside0.mk (Kd.R_lower ho HBr.out.size)
                        replace HBr := Aside0.mk (below_step HBr.out hb)
                        clear hb ho
                        refine hK.out _ _ (((blk_cell (blk_below BKp.out HBr.out) 0).trans rfl)) (fun hHeld => ?_)
                        clear hK K
                        refine norm_ (a' := ?_) ?_ ?_
                        rotate_left
                        · show Act.put _ (some 56) _ = _
                          simp only [Act.put, List.setIfInBounds_toArray, List.set_cons_zero, List.set_cons_succ, i64_w, i32_w]
                          rfl
                        refine two_ (i := 3) (j := 5) (Ni := some 58) (Nj := some 60) #[true, true, true, true, true, false, false, true, false] #[true, true, true, false, true, true, false, true, false] rfl rfl rfl rfl (by kernel_rfl) (by decide) (by decide) (fun K hK => ?_) (fun K hK => ?_)
                        · skip
                          refine Kd.R_append_rows_step (Kd.int .i64) (w0 := wr) wr.heap.size (by rfl) (.tmp 56) (.tmp 57) 57 3 (.int .i64 0) 8 rfl Tryz.underlying57 info3 rfl (by decide) (by omega) v56 [] word _ _ _ (fun _ => True) (fun _ => False) rfl rfl ?aO ?aR (fun _ _ h => h) (fun _ h => h.elim) ?aF ?aB ?aS ?aL ?_
                          (case aR => exact (Kd.R_reads' (Kd.R_below HW.out HBr.out)).2.2)
                          (case aB => exact HBr.out)
                          (case aF => exact (fun _ _ => trivial))
                          (case aO => exact H56.out)
                          (case aS => exact HBr.out.size)
                          (case aL => have := LM.out; simp only [List.length_nil]; omega)
                          intro v58 w58 ho hb hg hat
                          replace ho : Kd.R (Kd.int .i64) 3 w58 wr.heap.size (fun _ => True) v58 word := ho
                          have H58 := Aside0.mk ho
                          clear H56
                          replace HBr := Aside0.mk hb
                          clear ho hb hg hat
                          refine hK.out _ _ (((blk_cell (blk_below BKp.out HBr.out) 0).trans rfl)) (fun hHeld => ?_)
                          clear hK K
                          refine norm_ (a' := ?_) ?_ ?_
                          rotate_left
                          · show Act.put _ (some 58) _ = _
                            simp only [Act.put, List.setIfInBounds_toArray, List.set_cons_zero, List.set_cons_succ, i64_w, i32_w]
                            rfl
                          refine one_ (i := 5) (N := some 60) #[true, true, true, true, true, true, false, true, false] rfl rfl (by kernel_rfl) (by decide) (fun K hK => ?_)
                          refine Kd.R_lit_step (Kd.int .i64) _ 3 ?hg (N := 60) ?hd (xs := ([x9] : List Int)) (inner := [.int .i64 x9]) (ok := fun _ => True) (okp := fun _ => True) ?hr ?hp (fun _ hk => hk) trivial (Below.refl _ _) (Nat.le_refl _) (by simp) ?_; (case hd => rfl); (case hg => rfl); (case hr => first | (go_simp; done) | (go_simp; rfl)); (case hp => exact (Reps.one (show Kd.M (Kd.int .i64) _ _ _ x9 [.int .i64 x9] from rfl) (Reps.none _ _)))
                          intro v60 w60 ho hb hg_ hnew_
                          clear hg_ hnew_
                          have H60 := Aside0.mk (Kd.R_mono (Kd.R_lower (Kd.R_new' ho (Kd.R_lt H58.out)) HBr.out.size) (fun _ hk => hk.2))
                          replace H58 := Aside0.mk (Kd.R_mono (Kd.R_elder' H58.out (Kd.R_base ho) hb) (fun _ hk => hk.2))
                          replace HBr := Aside0.mk (below_step HBr.out hb)
                          clear hb ho
                          refine hK.out _ _ (((blk_cell (blk_below BKp.out HBr.out) 0).trans rfl)) (fun hHeld => ?_)
                          clear hK K
                          refine norm_ (a' := ?_) ?_ ?_
                          rotate_left
                          · show Act.put _ (some 60) _ = _
                            simp only [Act.put, List.setIfInBounds_toArray, List.set_cons_zero, List.set_cons_succ, i64_w, i32_w]
                            rfl
                          exact norm_ (by simp only [putAll, Act.put, List.setIfInBounds_toArray, List.set_cons_zero, List.set_cons_succ]) (hCont (v56, v58, v60) _ ⟨H58.out, H60.out, HBr.out⟩)
                        · skip
                          refine Kd.R_lit_step (Kd.int .i64) _ 3 ?hg (N := 60) ?hd (xs := ([x9] : List Int)) (inner := [.int .i64 x9]) (ok := fun _ => True) (okp := fun _ => True) ?hr ?hp (fun _ hk => hk) trivial (Below.refl _ _) (Nat.le_refl _) (by simp) ?_; (case hd => rfl); (case hg => rfl); (case hr => first | (go_simp; done) | (go_simp; rfl)); (case hp => exact (Reps.one (show Kd.M (Kd.int .i64) _ _ _ x9 [.int .i64 x9] from rfl) (Reps.none _ _)))
                          intro v60 w60 ho hb hg_ hnew_
                          clear hg_ hnew_
                          have H60 := Aside0.mk (Kd.R_mono (Kd.R_lower (Kd.R_new' ho (Kd.R_lt H56.out)) HBr.out.size) (fun _ hk => hk.2))
                          replace H56 := Aside0.mk (Kd.R_mono (Kd.R_elder' H56.out (Kd.R_base ho) hb) (fun _ hk => hk.2))
                          replace HBr := Aside0.mk (below_step HBr.out hb)
                          clear hb ho
                          refine hK.out _ _ (((blk_cell (blk_below BKp.out HBr.out) 0).trans rfl)) (fun hHeld => ?_)
                          clear hK K
                          refine norm_ (a' := ?_) ?_ ?_
                          rotate_left
                          · show Act.put _ (some 60) _ = _
                            simp only [Act.put, List.setIfInBounds_toArray, List.set_cons_zero, List.set_cons_succ, i64_w, i32_w]
                            rfl
                          refine one_ (i := 3) (N := some 58) #[true, true, true, true, true, true, false, true, false] rfl rfl (by kernel_rfl) (by decide) (fun K hK => ?_)
                          refine Kd.R_append_rows_step (Kd.int .i64) (w0 := wr) wr.heap.size (by rfl) (.tmp 56) (.tmp 57) 57 3 (.int .i64 0) 8 rfl Tryz.underlying57 info3 rfl (by decide) (by omega) v56 [] word _ _ _ (fun k_ => some k_ ≠ (v60 : Value).ownBlock) (fun _ => False) rfl rfl ?aO ?aR (fun _ _ h => h) (fun _ h => h.elim) ?aF ?aB ?aS ?aL ?_
                          (case aR => exact (Kd.R_reads' (Kd.R_below HW.out HBr.out)).2.2)
                          (case aB => exact HBr.out)
                          (case aF => exact (fun k_ hk => Kd.fresh' (Kd.R_lt H60.out) k_ hk))
                          (case aO => exact H56.out)
                          (case aS => exact HBr.out.size)
                          (case aL => have := LM.out; simp only [List.length_nil]; omega)
                          intro v58 w58 ho hb hg hat
                          replace ho : Kd.R (Kd.int .i64) 3 w58 wr.heap.size (fun k_ => some k_ ≠ (v60 : Value).ownBlock) v58 word := ho
                          replace H60 := Aside0.mk (Kd.R_mono (Kd.R_after (ok := fun _ => True) (Kd.R_mono H60.out (fun _ hk => ⟨trivial, hk⟩)) hg hat) (fun _ hk => hk.2))
                          have H58 := Aside0.mk ho
                          clear H56
                          replace HBr := Aside0.mk hb
                          clear ho hb hg hat
                          refine hK.out _ _ (((blk_cell (blk_below BKp.out HBr.out) 0).trans rfl)) (fun hHeld => ?_)
                          clear hK K
                          refine norm_ (a' := ?_) ?_ ?_
                          rotate_left
                          · show Act.put _ (some 58) _ = _
                            simp only [Act.put, List.setIfInBounds_toArray, List.set_cons_zero, List.set_cons_succ, i64_w, i32_w]
                            rfl
                          exact norm_ (by simp only [putAll, Act.put, List.setIfInBounds_toArray, List.set_cons_zero, List.set_cons_succ]) (hCont (v56, v58, v60) _ ⟨H58.out, H60.out, HBr.out⟩)
                      · skip
                        refine Kd.R_lit_step (Kd.int .i64) _ 3 ?hg (N := 60) ?hd (xs := ([x9] : List Int)) (inner := [.int .i64 x9]) (ok := fun _ => True) (okp := fun _ => True) ?hr ?hp (fun _ hk => hk) trivial (Below.refl _ _) (Nat.le_refl _) (by simp) ?_; (case hd => rfl); (case hg => rfl); (case hr => first | (go_simp; done) | (go_simp; rfl)); (case hp => exact (Reps.one (show Kd.M (Kd.int .i64) _ _ _ x9 [.int .i64 x9] from rfl) (Reps.none _ _)))
                        intro v60 w60 ho hb hg_ hnew_
                        clear hg_ hnew_
                        have H60 := Aside0.mk (Kd.R_lower ho HBr.out.size)
                        replace HBr := Aside0.mk (below_step HBr.out hb)
                        clear hb ho
                        refine hK.out _ _ (((blk_cell (blk_below BKp.out HBr.out) 0).trans rfl)) (fun hHeld => ?_)
                        clear hK K
                        refine norm_ (a' := ?_) ?_ ?_
                        rotate_left
                        · show Act.put _ (some 60) _ = _
                          simp only [Act.put, List.setIfInBounds_toArray, List.set_cons_zero, List.set_cons_succ, i64_w, i32_w]
                          rfl
                        refine one_ (i := 1) (N := some 56) #[true, true, true, false, true, true, false, true, false] rfl rfl (by kernel_rfl) (by decide) (fun K hK => ?_)
                        refine Kd.R_lit_step (Kd.int .i64) _ 3 ?hg (N := 56) ?hd (xs := ([] : List Int)) (inner := []) (ok := fun _ => True) (okp := fun _ => True) ?hr ?hp (fun _ hk => hk) trivial (Below.refl _ _) (Nat.le_refl _) (by simp) ?_; (case hd => rfl); (case hg => rfl); (case hr => first | (go_simp; done) | (go_simp; rfl)); (case hp => exact Reps.none _ _)
                        intro v56 w56 ho hb hg_ hnew_
                        clear hg_ hnew_
                        have H56 := Aside0.mk (Kd.R_mono (Kd.R_lower (Kd.R_new' ho (Kd.R_lt H60.out)) HBr.out.size) (fun _ hk => hk.2))
                        replace H60 := Aside0.mk (Kd.R_mono (Kd.R_elder' H60.out (Kd.R_base ho) hb) (fun _ hk => hk.2))
                        replace HBr := Aside0.mk (below_step HBr.out hb)
                        clear hb ho
                        refine hK.out _ _ (((blk_cell (blk_below BKp.out HBr.out) 0).trans rfl)) (fun hHeld => ?_)
                        clear hK K
                        refine norm_ (a' := ?_) ?_ ?_
                        rotate_left
                        · show Act.put _ (some 56) _ = _
                          simp only [Act.put, List.setIfInBounds_toArray, List.set_cons_zero, List.set_cons_succ, i64_w, i32_w]
                          rfl
                        refine one_ (i := 3) (N := some 58) #[true, true, true, true, true, true, false, true, false] rfl rfl (by kernel_rfl) (by decide) (fun K hK => ?_)
                        refine Kd.R_append_rows_step (Kd.int .i64) (w0 := wr) wr.heap.size (by rfl) (.tmp 56) (.tmp 57) 57 3 (.int .i64 0) 8 rfl Tryz.underlying57 info3 rfl (by decide) (by omega) v56 [] word _ _ _ (fun k_ => some k_ ≠ (v60 : Value).ownBlock) (fun _ => False) rfl rfl ?aO ?aR (fun _ _ h => h) (fun _ h => h.elim) ?aF ?aB ?aS ?aL ?_
                        (case aR => exact (Kd.R_reads' (Kd.R_below HW.out HBr.out)).2.2)
                        (case aB => exact HBr.out)
                        (case aF => exact (fun k_ hk => Kd.fresh' (Kd.R_lt H60.out) k_ hk))
                        (case aO => exact H56.out)
                        (case aS => exact HBr.out.size)
                        (case aL => have := LM.out; simp only [List.length_nil]; omega)
                        intro v58 w58 ho hb hg hat
                        replace ho : Kd.R (Kd.int .i64) 3 w58 wr.heap.size (fun k_ => some k_ ≠ (v60 : Value).ownBlock) v58 word := ho
                        replace H60 := Aside0.mk (Kd.R_mono (Kd.R_after (ok := fun _ => True) (Kd.R_mono H60.out (fun _ hk => ⟨trivial, hk⟩)) hg hat) (fun _ hk => hk.2))
                        have H58 := Aside0.mk ho
                        clear H56
                        replace HBr := Aside0.mk hb
                        clear ho hb hg hat
                        refine hK.out _ _ (((blk_cell (blk_below BKp.out HBr.out) 0).trans rfl)) (fun hHeld => ?_)
                        clear hK K
                        refine norm_ (a' := ?_) ?_ ?_
                        rotate_left
                        · show Act.put _ (some 58) _ = _
                          simp only [Act.put, List.setIfInBounds_toArray, List.set_cons_zero, List.set_cons_succ, i64_w, i32_w]
                          rfl
                        exact norm_ (by simp only [putAll, Act.put, List.setIfInBounds_toArray, List.set_cons_zero, List.set_cons_succ]) (hCont (v56, v58, v60) _ ⟨H58.out, H60.out, HBr.out⟩)
                    rintro ⟨v56, v58, v60⟩ w60 ⟨h0_, h1_, h2_⟩
                    have H58 := Aside0.mk h0_
                    have H60 := Aside0.mk h1_
                    replace HBr := Aside0.mk h2_
                    clear h0_ h1_ h2_
                    have hHeld : w60.cell? ⟨gp, 0, none⟩ = some (.func (.func 94) #[] #[.pointer (some ⟨gw, 0, none⟩), .pointer (some ⟨go, 0, none⟩), .pointer (some ⟨gl, 0, none⟩), .pointer (some ⟨gp, 0, none⟩)]) := ((blk_cell (blk_below BKp.out HBr.out) 0).trans rfl)
                    obtain ⟨A60, c60, e60⟩ := Kd.R_slice H60.out
                    subst e60
                    have e58_ : ∃ v_ : Value, v_ = v58 := ⟨_, rfl⟩
                    refine norm_ (a' := ?_) ?_ ?_
                    rotate_left
                    · simp only [putAll, Act.put, List.setIfInBounds_toArray, List.set_cons_zero, List.set_cons_succ]
                      rfl
                    refine one_ (i := 6) (N := some 61) #[true, true, true, true, true, true, true, true, false] rfl rfl (by kernel_rfl) (by decide) (fun K hK => ?_)
                    refine Kd.R_append_rows_step (Kd.int .i64) (w0 := wr) wr.heap.size (by rfl) (.tmp 58) (.tmp 60) 57 3 (.int .i64 0) 8 rfl Tryz.underlying57 info3 rfl (by decide) (by omega) v58 word [x9] _ _ _ (fun k_ => some k_ ≠ (.slice A60 [x9].length c60 : Value).ownBlock) (fun _ => False) rfl rfl ?aO ?aR (fun _ _ h => h) (fun _ h => h.elim) ?aF ?aB ?aS ?aL ?_
                    (case aR => exact (Kd.R_reads' H60.out).2.2)
                    (case aB => exact HBr.out)
                    (case aF => exact (fun k_ hk => Kd.fresh' (Kd.R_lt H60.out) k_ hk))
                    (case aO => exact H58.out)
                    (case aS => exact HBr.out.size)
                    (case aL => have := LM.out; simp only [List.length_cons, List.length_nil]; omega)
                    intro v61 w61 ho hb hg hat
                    rw [← NY.out] at ho
                    have H61 := Aside0.mk (Kd.R_mono (ok' := fun _ => True) ho (fun _ _ => trivial))
                    replace HBr := Aside0.mk hb
                    clear ho hb hg hat H58 H60
                    obtain ⟨A61, c61, e61⟩ := Kd.R_slice H61.out
                    subst e61
                    refine hK.out _ _ (((blk_cell (blk_below BKp.out HBr.out) 0).trans rfl)) (fun hHeld => ?_)
                    clear hK K
                    refine norm_ (a' := ?_) ?_ ?_
                    rotate_left
                    · show Act.put _ (some 61) _ = _
                      simp only [Act.put, List.setIfInBounds_toArray, List.set_cons_zero, List.set_cons_succ, i64_w, i32_w]
                      rfl
                    refine last_ (i := 8) (N := some 63) #[true, true, true, true, true, true, true, true, true] rfl rfl (by kernel_rfl) (by decide) (fun K hK => ?_)
                    refine impl_Lock_least.goesC 55 #[.pointer (some ⟨gw, 0, none⟩), .pointer (some ⟨go, 0, none⟩), .pointer (some ⟨gl, 0, none⟩), .pointer (some ⟨gp, 0, none⟩)] #[.slice A61 y61.length c61, .int .i64 (wrap64 ((word.length : Int) + 1))] Tryz.func94 (by kernel_rfl) rfl (by rfl) rfl rfl rfl (by (try simp only [List.map_toArray, List.map_cons, List.map_nil]); first | done | rfl) ?_
                    refine (ih kq (by have := HK1.out; omega) x3 y61 (wrap64 ((word.length : Int) + 1)) o3 _ vr A61 c61 ?_ (blk_below BKw.out HBr.out) (blk_below BKo.out HBr.out) (blk_below BKl.out HBr.out) (blk_below BKp.out HBr.out) (Kd.R_below HO.out HBr.out) (Kd.R_lower H61.out hszr) HP.out).mono ?_
                    · exact below_then HB.out hszr HBr.out
                    rintro e w9 ⟨rfl, v9_, hbo9, HO9, HB9, hk9, hat9⟩
                    refine ⟨_, rfl, ?_⟩
                    refine hK.out _ _ ?_
                    clear hK K
                    refine norm_ (a' := ?_) ?_ ?_
                    rotate_left
                    · show Act.put _ (some 63) _ = _
                      simp only [Act.put, List.setIfInBounds_toArray, List.set_cons_zero, List.set_cons_succ, i64_w, i32_w]
                      rfl
                    refine done_ (by kernel_rfl) ?_
                    try go_wp2
                    go_roundg kq
                    case measure => have := HK1.out; omega
                    case rel => exact ⟨wrap64 (x9 + 1), o3, v9_, (by first | rfl | (simp; done) | (simp [*]; done)), H', ⟨by have := HK1.out; omega⟩, ⟨hbo9⟩, ⟨HO9⟩, ⟨HB9⟩, ⟨HKB.out.trans ((KeepBut.of_below HBr.out go vr.ownBlock).trans hk9 (Or.inl rfl)) HAT.out⟩, ⟨by
                      rcases hat9 with e9 | ⟨b, e9, hb_⟩
                      · rw [e9]; exact HAT.out
                      · exact Or.inr ⟨b, e9, Nat.le_trans HKB.out.1 (Nat.le_trans HBr.out.size hb_)⟩⟩⟩
                  · rw [if_neg c9] at H
                    have c9b : decide (x9 > fi) = false := decide_eq_false c9
                    clear c9
                    obtain ⟨o3, HP, H⟩ := Option.bind_eq_some_iff.mp H
                    replace HP : impl_Lock_least.put kq W D x3 (word ++ [x9]) p = some o3 := by first | exact HP | (rw [if_pos (show ((([] : List Int).length : Nat) : Int) = 0 from rfl), show wrap64 ((([] : List Int).length : Nat) + 1 : Int) = 1 from by simp [wrap64]] at HP; exact HP)
                    obtain ⟨y61, hy61⟩ : ∃ y_ : List Int, y_ = word ++ [x9] := ⟨_, rfl⟩
                    rw [← hy61] at HP
                    have NY := Aside0.mk hy61
                    clear hy61
                    replace HP := Aside0.mk HP
                    have H' := Aside0.mk H
                    clear H
                    go_wp2
                    refine start_ (n := 9) (S := fun w' => w'.cell? ⟨gp, 0, none⟩ = some (.func (.func 94) #[] #[.pointer (some ⟨gw, 0, none⟩), .pointer (some ⟨go, 0, none⟩), .pointer (some ⟨gl, 0, none⟩), .pointer (some ⟨gp, 0, none⟩)])) (ds := [8]) #[false, false, false, false, false, false, false, false, false] (by kernel_rfl) rfl rfl (((blk_cell BKp.out 0).trans rfl)) (fun hHeld => ?_)
                    have HBr := Aside0.mk (below_drew1 (Below.refl wr.heap.size wr))
                    generalize wr.drew = wd at HBr hHeld ⊢
                    refine pure_ (i := 2) (N := some 57) (v := ?_) (a' := ?_) #[false, false, true, false, false, false, false, false, false] rfl rfl (by kernel_rfl) (fun _ _ _ h => h) (Or.inl ⟨by rfl, ?_⟩) ?_ ?_
                    rotate_left
                    · intro w'
                      go_simp
                      with_reducible rfl
                    rotate_left
                    · simp only [Act.put, List.setIfInBounds_toArray, List.set_cons_zero, List.set_cons_succ, i64_w, i32_w]
                      rfl
                    refine pure_ (i := 4) (N := some 59) (v := ?_) (a' := ?_) #[false, false, true, false, true, false, false, false, false] rfl rfl (by kernel_rfl) (fun _ _ _ h => h) (Or.inl ⟨by rfl, ?_⟩) ?_ ?_
                    rotate_left
                    · intro w'
                      go_simp
                      with_reducible rfl
                    rotate_left
                    · simp only [Act.put, List.setIfInBounds_toArray, List.set_cons_zero, List.set_cons_succ, i64_w, i32_w]
                      rfl
                    refine pure_ (i := 7) (N := some 62) (v := ?_) (a' := ?_) #[false, false, true, false, true, false, false, true, false] rfl rfl (by kernel_rfl) (fun _ _ _ h => h) (Or.inl ⟨by rfl, ?_⟩) ?_ ?_
                    rotate_left
                    · intro w'
                      go_simp
                      with_reducible rfl
                    rotate_left
                    · simp only [Act.put, List.setIfInBounds_toArray, List.set_cons_zero, List.set_cons_succ, i64_w, i32_w]
                      rfl
                    refine take_ (i := 0) (N := some 55) (v := ?_) (a' := ?_) #[true, false, true, false, true, false, false, true, false] rfl rfl (by kernel_rfl) (fun _ _ _ h => h) (Or.inl ⟨by rfl, ?_⟩) hHeld ?_ ?_
                    rotate_left
                    · intro w' s0
                      go_simp
                      with_reducible rfl
                    rotate_left
                    · simp only [Act.put, List.setIfInBounds_toArray, List.set_cons_zero, List.set_cons_succ, i64_w, i32_w]
                      rfl
                    refine join_ (σ := Value × Value × Value) 2 #[true, true, true, true, true, true, false, true, false] (fun s => [(56, s.1), (58, s.2.1), (60, s.2.2)]) (fun s w' => Kd.R (Kd.int .i64) 3 w' wr.heap.size (fun k_ => some k_ ≠ s.2.2.ownBlock) s.2.1 word ∧ Kd.R (Kd.int .i64) 3 w' wr.heap.size (fun k_ => some k_ ≠ s.2.1.ownBlock) s.2.2 [x9] ∧ Below wr.heap.size wr w') ?_ ?_
                    rotate_left
                    · intro hCont
                      refine two_ (i := 1) (j := 5) (Ni := some 56) (Nj := some 60) #[true, true, true, false, true, false, false, true, false] #[true, false, true, false, true, true, false, true, false] rfl rfl rfl rfl (by kernel_rfl) (by decide) (by decide) (fun K hK => ?_) (fun K hK => ?_)
                      · skip
                        refine Kd.R_lit_step (Kd.int .i64) _ 3 ?hg (N := 56) ?hd (xs := ([] : List Int)) (inner := []) (ok := fun _ => True) (okp := fun _ => True) ?hr ?hp (fun _ hk => hk) trivial (Below.refl _ _) (Nat.le_refl _) (by simp) ?_; (case hd => rfl); (case hg => rfl); (case hr => first | (go_simp; done) | (go_simp; rfl)); (case hp => exact Reps.none _ _)
                        intro v56 w56 ho hb hg_ hnew_
                        clear hg_ hnew_
                        have H56 := Aside0.mk (Kd.R_lower ho HBr.out.size)
                        replace HBr := Aside0.mk (below_step HBr.out hb)
                        clear hb ho
                        refine hK.out _ _ (((blk_cell (blk_below BKp.out HBr.out) 0).trans rfl)) (fun hHeld => ?_)
                        clear hK K
                        refine norm_ (a' := ?_) ?_ ?_
                        rotate_left
                        · show Act.put _ (some 56) _ = _
                          simp only [Act.put, List.setIfInBounds_toArray, List.set_cons_zero, List.set_cons_succ, i64_w, i32_w]
                          rfl
                        refine two_ (i := 3) (j := 5) (Ni := some 58) (Nj := some 60) #[true, true, true, true, true, false, false, true, false] #[true, true, true, false, true, true, false, true, false] rfl rfl rfl rfl (by kernel_rfl) (by decide) (by decide) (fun K hK => ?_) (fun K hK => ?_)
                        · skip
                          refine Kd.R_append_rows_step (Kd.int .i64) (w0 := wr) wr.heap.size (by rfl) (.tmp 56) (.tmp 57) 57 3 (.int .i64 0) 8 rfl Tryz.underlying57 info3 rfl (by decide) (by omega) v56 [] word _ _ _ (fun _ => True) (fun _ => False) rfl rfl ?aO ?aR (fun _ _ h => h) (fun _ h => h.elim) ?aF ?aB ?aS ?aL ?_
                          (case aR => exact (Kd.R_reads' (Kd.R_below HW.out HBr.out)).2.2)
                          (case aB => exact HBr.out)
                          (case aF => exact (fun _ _ => trivial))
                          (case aO => exact H56.out)
                          (case aS => exact HBr.out.size)
                          (case aL => have := LM.out; simp only [List.length_nil]; omega)
                          intro v58 w58 ho hb hg hat
                          replace ho : Kd.R (Kd.int .i64) 3 w58 wr.heap.size (fun _ => True) v58 word := ho
                          have H58 := Aside0.mk ho
                          clear H56
                          replace HBr := Aside0.mk hb
                          clear ho hb hg hat
                          refine hK.out _ _ (((blk_cell (blk_below BKp.out HBr.out) 0).trans rfl)) (fun hHeld => ?_)
                          clear hK K
                          refine norm_ (a' := ?_) ?_ ?_
                          rotate_left
                          · show Act.put _ (some 58) _ = _
                            simp only [Act.put, List.setIfInBounds_toArray, List.set_cons_zero, List.set_cons_succ, i64_w, i32_w]
                            rfl
                          refine one_ (i := 5) (N := some 60) #[true, true, true, true, true, true, false, true, false] rfl rfl (by kernel_rfl) (by decide) (fun K hK => ?_)
                          refine Kd.R_lit_step (Kd.int .i64) _ 3 ?hg (N := 60) ?hd (xs := ([x9] : List Int)) (inner := [.int .i64 x9]) (ok := fun _ => True) (okp := fun _ => True) ?hr ?hp (fun _ hk => hk) trivial (Below.refl _ _) (Nat.le_refl _) (by simp) ?_; (case hd => rfl); (case hg => rfl); (case hr => first | (go_simp; done) | (go_simp; rfl)); (case hp => exact (Reps.one (show Kd.M (Kd.int .i64) _ _ _ x9 [.int .i64 x9] from rfl) (Reps.none _ _)))
                          intro v60 w60 ho hb hg_ hnew_
                          clear hg_ hnew_
                          have H60 := Aside0.mk (Kd.R_mono (Kd.R_lower (Kd.R_new' ho (Kd.R_lt H58.out)) HBr.out.size) (fun _ hk => hk.2))
                          replace H58 := Aside0.mk (Kd.R_mono (Kd.R_elder' H58.out (Kd.R_base ho) hb) (fun _ hk => hk.2))
                          replace HBr := Aside0.mk (below_step HBr.out hb)
                          clear hb ho
                          refine hK.out _ _ (((blk_cell (blk_below BKp.out HBr.out) 0).trans rfl)) (fun hHeld => ?_)
                          clear hK K
                          refine norm_ (a' := ?_) ?_ ?_
                          rotate_left
                          · show Act.put _ (some 60) _ = _
                            simp only [Act.put, List.setIfInBounds_toArray, List.set_cons_zero, List.set_cons_succ, i64_w, i32_w]
                            rfl
                          exact norm_ (by simp only [putAll, Act.put, List.setIfInBounds_toArray, List.set_cons_zero, List.set_cons_succ]) (hCont (v56, v58, v60) _ ⟨H58.out, H60.out, HBr.out⟩)
                        · skip
                          refine Kd.R_lit_step (Kd.int .i64) _ 3 ?hg (N := 60) ?hd (xs := ([x9] : List Int)) (inner := [.int .i64 x9]) (ok := fun _ => True) (okp := fun _ => True) ?hr ?hp (fun _ hk => hk) trivial (Below.refl _ _) (Nat.le_refl _) (by simp) ?_; (case hd => rfl); (case hg => rfl); (case hr => first | (go_simp; done) | (go_simp; rfl)); (case hp => exact (Reps.one (show Kd.M (Kd.int .i64) _ _ _ x9 [.int .i64 x9] from rfl) (Reps.none _ _)))
                          intro v60 w60 ho hb hg_ hnew_
                          clear hg_ hnew_
                          have H60 := Aside0.mk (Kd.R_mono (Kd.R_lower (Kd.R_new' ho (Kd.R_lt H56.out)) HBr.out.size) (fun _ hk => hk.2))
                          replace H56 := Aside0.mk (Kd.R_mono (Kd.R_elder' H56.out (Kd.R_base ho) hb) (fun _ hk => hk.2))
                          replace HBr := Aside0.mk (below_step HBr.out hb)
                          clear hb ho
                          refine hK.out _ _ (((blk_cell (blk_below BKp.out HBr.out) 0).trans rfl)) (fun hHeld => ?_)
                          clear hK K
                          refine norm_ (a' := ?_) ?_ ?_
                          rotate_left
                          · show Act.put _ (some 60) _ = _
                            simp only [Act.put, List.setIfInBounds_toArray, List.set_cons_zero, List.set_cons_succ, i64_w, i32_w]
                            rfl
                          refine one_ (i := 3) (N := some 58) #[true, true, true, true, true, true, false, true, false] rfl rfl (by kernel_rfl) (by decide) (fun K hK => ?_)
                          refine Kd.R_append_rows_step (Kd.int .i64) (w0 := wr) wr.heap.size (by rfl) (.tmp 56) (.tmp 57) 57 3 (.int .i64 0) 8 rfl Tryz.underlying57 info3 rfl (by decide) (by omega) v56 [] word _ _ _ (fun k_ => some k_ ≠ (v60 : Value).ownBlock) (fun _ => False) rfl rfl ?aO ?aR (fun _ _ h => h) (fun _ h => h.elim) ?aF ?aB ?aS ?aL ?_
                          (case aR => exact (Kd.R_reads' (Kd.R_below HW.out HBr.out)).2.2)
                          (case aB => exact HBr.out)
                          (case aF => exact (fun k_ hk => Kd.fresh' (Kd.R_lt H60.out) k_ hk))
                          (case aO => exact H56.out)
                          (case aS => exact HBr.out.size)
                          (case aL => have := LM.out; simp only [List.length_nil]; omega)
                          intro v58 w58 ho hb hg hat
                          replace ho : Kd.R (Kd.int .i64) 3 w58 wr.heap.size (fun k_ => some k_ ≠ (v60 : Value).ownBlock) v58 word := ho
                          replace H60 := Aside0.mk (Kd.R_mono (Kd.R_after (ok := fun _ => True) (Kd.R_mono H60.out (fun _ hk => ⟨trivial, hk⟩)) hg hat) (fun _ hk => hk.2))
                          have H58 := Aside0.mk ho
                          clear H56
                          replace HBr := Aside0.mk hb
                          clear ho hb hg hat
                          refine hK.out _ _ (((blk_cell (blk_below BKp.out HBr.out) 0).trans rfl)) (fun hHeld => ?_)
                          clear hK K
                          refine norm_ (a' := ?_) ?_ ?_
                          rotate_left
                          · show Act.put _ (some 58) _ = _
                            simp only [Act.put, List.setIfInBounds_toArray, List.set_cons_zero, List.set_cons_succ, i64_w, i32_w]
                            rfl
                          exact norm_ (by simp only [putAll, Act.put, List.setIfInBounds_toArray, List.set_cons_zero, List.set_cons_succ]) (hCont (v56, v58, v60) _ ⟨H58.out, H60.out, HBr.out⟩)
                      · skip
                        refine Kd.R_lit_step (Kd.int .i64) _ 3 ?hg (N := 60) ?hd (xs := ([x9] : List Int)) (inner := [.int .i64 x9]) (ok := fun _ => True) (okp := fun _ => True) ?hr ?hp (fun _ hk => hk) trivial (Below.refl _ _) (Nat.le_refl _) (by simp) ?_; (case hd => rfl); (case hg => rfl); (case hr => first | (go_simp; done) | (go_simp; rfl)); (case hp => exact (Reps.one (show Kd.M (Kd.int .i64) _ _ _ x9 [.int .i64 x9] from rfl) (Reps.none _ _)))
                        intro v60 w60 ho hb hg_ hnew_
                        clear hg_ hnew_
                        have H60 := Aside0.mk (Kd.R_lower ho HBr.out.size)
                        replace HBr := Aside0.mk (below_step HBr.out hb)
                        clear hb ho
                        refine hK.out _ _ (((blk_cell (blk_below BKp.out HBr.out) 0).trans rfl)) (fun hHeld => ?_)
                        clear hK K
                        refine norm_ (a' := ?_) ?_ ?_
                        rotate_left
                        · show Act.put _ (some 60) _ = _
                          simp only [Act.put, List.setIfInBounds_toArray, List.set_cons_zero, List.set_cons_succ, i64_w, i32_w]
                          rfl
                        refine one_ (i := 1) (N := some 56) #[true, true, true, false, true, true, false, true, false] rfl rfl (by kernel_rfl) (by decide) (fun K hK => ?_)
                        refine Kd.R_lit_step (Kd.int .i64) _ 3 ?hg (N := 56) ?hd (xs := ([] : List Int)) (inner := []) (ok := fun _ => True) (okp := fun _ => True) ?hr ?hp (fun _ hk => hk) trivial (Below.refl _ _) (Nat.le_refl _) (by simp) ?_; (case hd => rfl); (case hg => rfl); (case hr => first | (go_simp; done) | (go_simp; rfl)); (case hp => exact Reps.none _ _)
                        intro v56 w56 ho hb hg_ hnew_
                        clear hg_ hnew_
                        have H56 := Aside0.mk (Kd.R_mono (Kd.R_lower (Kd.R_new' ho (Kd.R_lt H60.out)) HBr.out.size) (fun _ hk => hk.2))
                        replace H60 := Aside0.mk (Kd.R_mono (Kd.R_elder' H60.out (Kd.R_base ho) hb) (fun _ hk => hk.2))
                        replace HBr := Aside0.mk (below_step HBr.out hb)
                        clear hb ho
                        refine hK.out _ _ (((blk_cell (blk_below BKp.out HBr.out) 0).trans rfl)) (fun hHeld => ?_)
                        clear hK K
                        refine norm_ (a' := ?_) ?_ ?_
                        rotate_left
                        · show Act.put _ (some 56) _ = _
                          simp only [Act.put, List.setIfInBounds_toArray, List.set_cons_zero, List.set_cons_succ, i64_w, i32_w]
                          rfl
                        refine one_ (i := 3) (N := some 58) #[true, true, true, true, true, true, false, true, false] rfl rfl (by kernel_rfl) (by decide) (fun K hK => ?_)
                        refine Kd.R_append_rows_step (Kd.int .i64) (w0 := wr) wr.heap.size (by rfl) (.tmp 56) (.tmp 57) 57 3 (.int .i64 0) 8 rfl Tryz.underlying57 info3 rfl (by decide) (by omega) v56 [] word _ _ _ (fun k_ => some k_ ≠ (v60 : Value).ownBlock) (fun _ => False) rfl rfl ?aO ?aR (fun _ _ h => h) (fun _ h => h.elim) ?aF ?aB ?aS ?aL ?_
                        (case aR => exact (Kd.R_reads' (Kd.R_below HW.out HBr.out)).2.2)
                        (case aB => exact HBr.out)
                        (case aF => exact (fun k_ hk => Kd.fresh' (Kd.R_lt H60.out) k_ hk))
                        (case aO => exact H56.out)
                        (case aS => exact HBr.out.size)
                        (case aL => have := LM.out; simp only [List.length_nil]; omega)
                        intro v58 w58 ho hb hg hat
                        replace ho : Kd.R (Kd.int .i64) 3 w58 wr.heap.size (fun k_ => some k_ ≠ (v60 : Value).ownBlock) v58 word := ho
                        replace H60 := Aside0.mk (Kd.R_mono (Kd.R_after (ok := fun _ => True) (Kd.R_mono H60.out (fun _ hk => ⟨trivial, hk⟩)) hg hat) (fun _ hk => hk.2))
                        have H58 := Aside0.mk ho
                        clear H56
                        replace HBr := Aside0.mk hb
                        clear ho hb hg hat
                        refine hK.out _ _ (((blk_cell (blk_below BKp.out HBr.out) 0).trans rfl)) (fun hHeld => ?_)
                        clear hK K
                        refine norm_ (a' := ?_) ?_ ?_
                        rotate_left
                        · show Act.put _ (some 58) _ = _
                          simp only [Act.put, List.setIfInBounds_toArray, List.set_cons_zero, List.set_cons_succ, i64_w, i32_w]
                          rfl
                        exact norm_ (by simp only [putAll, Act.put, List.setIfInBounds_toArray, List.set_cons_zero, List.set_cons_succ]) (hCont (v56, v58, v60) _ ⟨H58.out, H60.out, HBr.out⟩)
                    rintro ⟨v56, v58, v60⟩ w60 ⟨h0_, h1_, h2_⟩
                    have H58 := Aside0.mk h0_
                    have H60 := Aside0.mk h1_
                    replace HBr := Aside0.mk h2_
                    clear h0_ h1_ h2_
                    have hHeld : w60.cell? ⟨gp, 0, none⟩ = some (.func (.func 94) #[] #[.pointer (some ⟨gw, 0, none⟩), .pointer (some ⟨go, 0, none⟩), .pointer (some ⟨gl, 0, none⟩), .pointer (some ⟨gp, 0, none⟩)]) := ((blk_cell (blk_below BKp.out HBr.out) 0).trans rfl)
                    obtain ⟨A60, c60, e60⟩ := Kd.R_slice H60.out
                    subst e60
                    have e58_ : ∃ v_ : Value, v_ = v58 := ⟨_, rfl⟩
                    refine norm_ (a' := ?_) ?_ ?_
                    rotate_left
                    · simp only [putAll, Act.put, List.setIfInBounds_toArray, List.set_cons_zero, List.set_cons_succ]
                      rfl
                    refine one_ (i := 6) (N := some 61) #[true, true, true, true, true, true, true, true, false] rfl rfl (by kernel_rfl) (by decide) (fun K hK => ?_)
                    refine Kd.R_append_rows_step (Kd.int .i64) (w0 := wr) wr.heap.size (by rfl) (.tmp 58) (.tmp 60) 57 3 (.int .i64 0) 8 rfl Tryz.underlying57 info3 rfl (by decide) (by omega) v58 word [x9] _ _ _ (fun k_ => some k_ ≠ (.slice A60 [x9].length c60 : Value).ownBlock) (fun _ => False) rfl rfl ?aO ?aR (fun _ _ h => h) (fun _ h => h.elim) ?aF ?aB ?aS ?aL ?_
                    (case aR => exact (Kd.R_reads' H60.out).2.2)
                    (case aB => exact HBr.out)
                    (case aF => exact (fun k_ hk => Kd.fresh' (Kd.R_lt H60.out) k_ hk))
                    (case aO => exact H58.out)
                    (case aS => exact HBr.out.size)
                    (case aL => have := LM.out; simp only [List.length_cons, List.length_nil]; omega)
                    intro v61 w61 ho hb hg hat
                    rw [← NY.out] at ho
                    have H61 := Aside0.mk (Kd.R_mono (ok' := fun _ => True) ho (fun _ _ => trivial))
                    replace HBr := Aside0.mk hb
                    clear ho hb hg hat H58 H60
                    obtain ⟨A61, c61, e61⟩ := Kd.R_slice H61.out
                    subst e61
                    refine hK.out _ _ (((blk_cell (blk_below BKp.out HBr.out) 0).trans rfl)) (fun hHeld => ?_)
                    clear hK K
                    refine norm_ (a' := ?_) ?_ ?_
                    rotate_left
                    · show Act.put _ (some 61) _ = _
                      simp only [Act.put, List.setIfInBounds_toArray, List.set_cons_zero, List.set_cons_succ, i64_w, i32_w]
                      rfl
                    refine last_ (i := 8) (N := some 63) #[true, true, true, true, true, true, true, true, true] rfl rfl (by kernel_rfl) (by decide) (fun K hK => ?_)
                    refine impl_Lock_least.goesC 55 #[.pointer (some ⟨gw, 0, none⟩), .pointer (some ⟨go, 0, none⟩), .pointer (some ⟨gl, 0, none⟩), .pointer (some ⟨gp, 0, none⟩)] #[.slice A61 y61.length c61, .int .i64 p] Tryz.func94 (by kernel_rfl) rfl (by rfl) rfl rfl rfl (by (try simp only [List.map_toArray, List.map_cons, List.map_nil]); first | done | rfl) ?_
                    refine (ih kq (by have := HK1.out; omega) x3 y61 p o3 _ vr A61 c61 ?_ (blk_below BKw.out HBr.out) (blk_below BKo.out HBr.out) (blk_below BKl.out HBr.out) (blk_below BKp.out HBr.out) (Kd.R_below HO.out HBr.out) (Kd.R_lower H61.out hszr) HP.out).mono ?_
                    · exact below_then HB.out hszr HBr.out
                    rintro e w9 ⟨rfl, v9_, hbo9, HO9, HB9, hk9, hat9⟩
                    refine ⟨_, rfl, ?_⟩
                    refine hK.out _ _ ?_
                    clear hK K
                    refine norm_ (a' := ?_) ?_ ?_
                    rotate_left
                    · show Act.put _ (some 63) _ = _
                      simp only [Act.put, List.setIfInBounds_toArray, List.set_cons_zero, List.set_cons_succ, i64_w, i32_w]
                      rfl
                    refine done_ (by kernel_rfl) ?_
                    try go_wp2
                    go_roundg kq
                    case measure => have := HK1.out; omega
                    case rel => exact ⟨wrap64 (x9 + 1), o3, v9_, (by first | rfl | (simp; done) | (simp [*]; done)), H', ⟨by have := HK1.out; omega⟩, ⟨hbo9⟩, ⟨HO9⟩, ⟨HB9⟩, ⟨HKB.out.trans ((KeepBut.of_below HBr.out go vr.ownBlock).trans hk9 (Or.inl rfl)) HAT.out⟩, ⟨by
                      rcases hat9 with e9 | ⟨b, e9, hb_⟩
                      · rw [e9]; exact HAT.out
                      · exact Or.inr ⟨b, e9, Nat.le_trans HKB.out.1 (Nat.le_trans HBr.out.size hb_)⟩⟩⟩
                · rw [if_neg c8] at H
                  exact absurd H (by simp)
              · rw [if_neg c7] at H
                have c7b : decide (x9 < D) = false := decide_eq_false c7
                clear c7
                obtain rfl := Option.some.inj H
                go_wp2
                (try simp only [Exit.inBlock, Exit.then]); (first | refine bodyPost_ret (results_none rfl _ _ _) rfl ?_ | refine bodyPost_end (results_none rfl _ _ _) rfl ?_)
                exact ⟨rfl, vr, BKo.out, HO.out, HB.out, HKB.out, HAT.out⟩
        · rw [if_neg c3] at h; exact absurd h (by simp)
      · rw [if_neg c2] at h; exact absurd h (by simp)
    · rw [if_neg c1] at h
      have c1d : word = [] := List.length_eq_zero_iff.mp (by omega)
      have H' := Aside0.mk h
      clear h c1
      subst c1d
      have c0z : ((0 : Int) == W) = false := c0b
      go_enter Tryz.func94, Tryz.ntmps94
      go_wp2
      go_loopg [9] k (fun kq v9 w' => ∃ (x9 : Int) (x3 : List ByteArray) (vr : Value), v9 = .int .i64 x9 ∧ Aside0 (impl_Lock_least.rep kq W D x3 ([] : List Int) p 0 x9 = some r) ∧ Aside0 (kq ≤ k) ∧ Aside0 (w'.heap[go]? = some (.cells #[vr] 26 (0, 0))) ∧ Aside0 (Kd.R Kd.string 9 w' w0.heap.size (fun _ => True) vr x3) ∧ Aside0 (Below w0.heap.size w0 w') ∧ Aside0 (KeepBut w w' go vo.ownBlock) ∧ Aside0 (vr.ownBlock = vo.ownBlock ∨ ∃ b, vr.ownBlock = some b ∧ w.heap.size ≤ b))
      case atStart => exact ⟨0, out, vo, (by first | rfl | (simp; done) | (simp [*]; done)), H', ⟨Nat.le_refl _⟩, BKo, HO, HB, ⟨KeepBut.refl _ _ _⟩, ⟨Or.inl rfl⟩⟩
      case round =>
        clear H'
        try clear p2
        obtain ⟨x9, x3, vr, rfl, HA, HK1, BKr, HOr, HBw, HKB, HAT⟩ := hrel
        replace BKw := Aside0.mk (KeepBut.blk HKB.out BKw.out (blk_ne BKw.out BKo.out (by decide)) (Kd.R_ne HO.out BKw.out (by decide)))
        replace BKl := Aside0.mk (KeepBut.blk HKB.out BKl.out (blk_ne BKl.out BKo.out (by decide)) (Kd.R_ne HO.out BKl.out (by decide)))
        replace BKp := Aside0.mk (KeepBut.blk HKB.out BKp.out (blk_ne BKp.out BKo.out (by decide)) (Kd.R_ne HO.out BKp.out (by decide)))
        replace HW := Aside0.mk (impl_Lock_least.keepW HW.out BKo.out HO.out HKB.out)
        replace BKo := BKr
        replace HO := HOr
        replace HB := HBw
        clear BKr HOr HBw
        have hszr : w0.heap.size ≤ wr.heap.size := HB.out.size
        have hzl : wr.cell? ⟨gl, 1, none⟩ = some (.int .i64 D) := (blk_cell BKl.out 1).trans rfl
        cases gk with
        | zero => exact absurd HA.out (by simp [impl_Lock_least.rep])
        | succ kq =>
          have H := HA.out
          clear HA
          simp only [impl_Lock_least.rep] at H
          by_cases c7 : x9 < D
          · rw [if_pos c7] at H
            have c7b : decide (x9 < D) = true := decide_eq_true c7
            clear c7
            by_cases c8 : ([] : List Int).length < 17592186044000
            · rw [if_pos c8] at H
              have LM := Aside0.mk c8
              clear c8
              obtain ⟨o3, HP, H⟩ := Option.bind_eq_some_iff.mp H
              replace HP : impl_Lock_least.put kq W D x3 (([] : List Int) ++ [x9]) 1 = some o3 := by first | exact HP | (rw [if_pos (show ((([] : List Int).length : Nat) : Int) = 0 from rfl), show wrap64 ((([] : List Int).length : Nat) + 1 : Int) = 1 from by simp [wrap64]] at HP; exact HP)
              obtain ⟨y61, hy61⟩ : ∃ y_ : List Int, y_ = ([] : List Int) ++ [x9] := ⟨_, rfl⟩
              rw [← hy61] at HP
              have NY := Aside0.mk hy61
              clear hy61
              replace HP := Aside0.mk HP
              have H' := Aside0.mk H
              clear H
              go_wp2
              refine start_ (n := 9) (S := fun w' => w'.cell? ⟨gp, 0, none⟩ = some (.func (.func 94) #[] #[.pointer (some ⟨gw, 0, none⟩), .pointer (some ⟨go, 0, none⟩), .pointer (some ⟨gl, 0, none⟩), .pointer (some ⟨gp, 0, none⟩)])) (ds := [8]) #[false, false, false, false, false, false, false, false, false] (by kernel_rfl) rfl rfl (((blk_cell BKp.out 0).trans rfl)) (fun hHeld => ?_)
              have HBr := Aside0.mk (below_drew1 (Below.refl wr.heap.size wr))
              generalize wr.drew = wd at HBr hHeld ⊢
              refine pure_ (i := 2) (N := some 57) (v := ?_) (a' := ?_) #[false, false, true, false, false, false, false, false, false] rfl rfl (by kernel_rfl) (fun _ _ _ h => h) (Or.inl ⟨by rfl, ?_⟩) ?_ ?_
              rotate_left
              · intro w'
                go_simp
                with_reducible rfl
              rotate_left
              · simp only [Act.put, List.setIfInBounds_toArray, List.set_cons_zero, List.set_cons_succ, i64_w, i32_w]
                rfl
              refine pure_ (i := 4) (N := some 59) (v := ?_) (a' := ?_) #[false, false, true, false, true, false, false, false, false] rfl rfl (by kernel_rfl) (fun _ _ _ h => h) (Or.inl ⟨by rfl, ?_⟩) ?_ ?_
              rotate_left
              · intro w'
                go_simp
                with_reducible rfl
              rotate_left
              · simp only [Act.put, List.setIfInBounds_toArray, List.set_cons_zero, List.set_cons_succ, i64_w, i32_w]
                rfl
              refine pure_ (i := 7) (N := some 62) (v := ?_) (a' := ?_) #[false, false, true, false, true, false, false, true, false] rfl rfl (by kernel_rfl) (fun _ _ _ h => h) (Or.inl ⟨by rfl, ?_⟩) ?_ ?_
              rotate_left
              · intro w'
                go_simp
                with_reducible rfl
              rotate_left
              · simp only [Act.put, List.setIfInBounds_toArray, List.set_cons_zero, List.set_cons_succ, i64_w, i32_w]
                rfl
              refine take_ (i := 0) (N := some 55) (v := ?_) (a' := ?_) #[true, false, true, false, true, false, false, true, false] rfl rfl (by kernel_rfl) (fun _ _ _ h => h) (Or.inl ⟨by rfl, ?_⟩) hHeld ?_ ?_
              rotate_left
              · intro w' s0
                go_simp
                with_reducible rfl
              rotate_left
              · simp only [Act.put, List.setIfInBounds_toArray, List.set_cons_zero, List.set_cons_succ, i64_w, i32_w]
                rfl
              refine join_ (σ := Value × Value × Value) 2 #[true, true, true, true, true, true, false, true, false] (fun s => [(56, s.1), (58, s.2.1), (60, s.2.2)]) (fun s w' => Kd.R (Kd.int .i64) 3 w' wr.heap.size (fun k_ => some k_ ≠ s.2.2.ownBlock) s.2.1 ([] : List Int) ∧ Kd.R (Kd.int .i64) 3 w' wr.heap.size (fun k_ => some k_ ≠ s.2.1.ownBlock) s.2.2 [x9] ∧ Below wr.heap.size wr w') ?_ ?_
              rotate_left
              · intro hCont
                refine two_ (i := 1) (j := 5) (Ni := some 56) (Nj := some 60) #[true, true, true, false, true, false, false, true, false] #[true, false, true, false, true, true, false, true, false] rfl rfl rfl rfl (by kernel_rfl) (by decide) (by decide) (fun K hK => ?_) (fun K hK => ?_)
                · skip
                  refine Kd.R_lit_step (Kd.int .i64) _ 3 ?hg (N := 56) ?hd (xs := ([] : List Int)) (inner := []) (ok := fun _ => True) (okp := fun _ => True) ?hr ?hp (fun _ hk => hk) trivial (Below.refl _ _) (Nat.le_refl _) (by simp) ?_; (case hd => rfl); (case hg => rfl); (case hr => first | (go_simp; done) | (go_simp; rfl)); (case hp => exact Reps.none _ _)
                  intro v56 w56 ho hb hg_ hnew_
                  clear hg_ hnew_
                  have H56 := Aside0.mk (Kd.R_lower ho HBr.out.size)
                  replace HBr := Aside0.mk (below_step HBr.out hb)
                  clear hb ho
                  refine hK.out _ _ (((blk_cell (blk_below BKp.out HBr.out) 0).trans rfl)) (fun hHeld => ?_)
                  clear hK K
                  refine norm_ (a' := ?_) ?_ ?_
                  rotate_left
                  · show Act.put _ (some 56) _ = _
                    simp only [Act.put, List.setIfInBounds_toArray, List.set_cons_zero, List.set_cons_succ, i64_w, i32_w]
                    rfl
                  refine two_ (i := 3) (j := 5) (Ni := some 58) (Nj := some 60) #[true, true, true, true, true, false, false, true, false] #[true, true, true, false, true, true, false, true, false] rfl rfl rfl rfl (by kernel_rfl) (by decide) (by decide) (fun K hK => ?_) (fun K hK => ?_)
                  · skip
                    refine Kd.R_append_rows_step (Kd.int .i64) (w0 := wr) wr.heap.size (by rfl) (.tmp 56) (.tmp 57) 57 3 (.int .i64 0) 8 rfl Tryz.underlying57 info3 rfl (by decide) (by omega) v56 [] ([] : List Int) _ _ _ (fun _ => True) (fun _ => False) rfl rfl ?aO ?aR (fun _ _ h => h) (fun _ h => h.elim) ?aF ?aB ?aS ?aL ?_
                    (case aR => exact (Kd.R_reads' (Kd.R_below HW.out HBr.out)).2.2)
                    (case aB => exact HBr.out)
                    (case aF => exact (fun _ _ => trivial))
                    (case aO => exact H56.out)
                    (case aS => exact HBr.out.size)
                    (case aL => have := LM.out; simp only [List.length_nil]; omega)
                    intro v58 w58 ho hb hg hat
                    replace ho : Kd.R (Kd.int .i64) 3 w58 wr.heap.size (fun _ => True) v58 ([] : List Int) := ho
                    have H58 := Aside0.mk ho
                    clear H56
                    replace HBr := Aside0.mk hb
                    clear ho hb hg hat
                    refine hK.out _ _ (((blk_cell (blk_below BKp.out HBr.out) 0).trans rfl)) (fun hHeld => ?_)
                    clear hK K
                    refine norm_ (a' := ?_) ?_ ?_
                    rotate_left
                    · show Act.put _ (some 58) _ = _
                      simp only [Act.put, List.setIfInBounds_toArray, List.set_cons_zero, List.set_cons_succ, i64_w, i32_w]
                      rfl
                    refine one_ (i := 5) (N := some 60) #[true, true, true, true, true, true, false, true, false] rfl rfl (by kernel_rfl) (by decide) (fun K hK => ?_)
                    refine Kd.R_lit_step (Kd.int .i64) _ 3 ?hg (N := 60) ?hd (xs := ([x9] : List Int)) (inner := [.int .i64 x9]) (ok := fun _ => True) (okp := fun _ => True) ?hr ?hp (fun _ hk => hk) trivial (Below.refl _ _) (Nat.le_refl _) (by simp) ?_; (case hd => rfl); (case hg => rfl); (case hr => first | (go_simp; done) | (go_simp; rfl)); (case hp => exact (Reps.one (show Kd.M (Kd.int .i64) _ _ _ x9 [.int .i64 x9] from rfl) (Reps.none _ _)))
                    intro v60 w60 ho hb hg_ hnew_
                    clear hg_ hnew_
                    have H60 := Aside0.mk (Kd.R_mono (Kd.R_lower (Kd.R_new' ho (Kd.R_lt H58.out)) HBr.out.size) (fun _ hk => hk.2))
                    replace H58 := Aside0.mk (Kd.R_mono (Kd.R_elder' H58.out (Kd.R_base ho) hb) (fun _ hk => hk.2))
                    replace HBr := Aside0.mk (below_step HBr.out hb)
                    clear hb ho
                    refine hK.out _ _ (((blk_cell (blk_below BKp.out HBr.out) 0).trans rfl)) (fun hHeld => ?_)
                    clear hK K
                    refine norm_ (a' := ?_) ?_ ?_
                    rotate_left
                    · show Act.put _ (some 60) _ = _
                      simp only [Act.put, List.setIfInBounds_toArray, List.set_cons_zero, List.set_cons_succ, i64_w, i32_w]
                      rfl
                    exact norm_ (by simp only [putAll, Act.put, List.setIfInBounds_toArray, List.set_cons_zero, List.set_cons_succ]) (hCont (v56, v58, v60) _ ⟨H58.out, H60.out, HBr.out⟩)
                  · skip
                    refine Kd.R_lit_step (Kd.int .i64) _ 3 ?hg (N := 60) ?hd (xs := ([x9] : List Int)) (inner := [.int .i64 x9]) (ok := fun _ => True) (okp := fun _ => True) ?hr ?hp (fun _ hk => hk) trivial (Below.refl _ _) (Nat.le_refl _) (by simp) ?_; (case hd => rfl); (case hg => rfl); (case hr => first | (go_simp; done) | (go_simp; rfl)); (case hp => exact (Reps.one (show Kd.M (Kd.int .i64) _ _ _ x9 [.int .i64 x9] from rfl) (Reps.none _ _)))
                    intro v60 w60 ho hb hg_ hnew_
                    clear hg_ hnew_
                    have H60 := Aside0.mk (Kd.R_mono (Kd.R_lower (Kd.R_new' ho (Kd.R_lt H56.out)) HBr.out.size) (fun _ hk => hk.2))
                    replace H56 := Aside0.mk (Kd.R_mono (Kd.R_elder' H56.out (Kd.R_base ho) hb) (fun _ hk => hk.2))
                    replace HBr := Aside0.mk (below_step HBr.out hb)
                    clear hb ho
                    refine hK.out _ _ (((blk_cell (blk_below BKp.out HBr.out) 0).trans rfl)) (fun hHeld => ?_)
                    clear hK K
                    refine norm_ (a' := ?_) ?_ ?_
                    rotate_left
                    · show Act.put _ (some 60) _ = _
                      simp only [Act.put, List.setIfInBounds_toArray, List.set_cons_zero, List.set_cons_succ, i64_w, i32_w]
                      rfl
                    refine one_ (i := 3) (N := some 58) #[true, true, true, true, true, true, false, true, false] rfl rfl (by kernel_rfl) (by decide) (fun K hK => ?_)
                    refine Kd.R_append_rows_step (Kd.int .i64) (w0 := wr) wr.heap.size (by rfl) (.tmp 56) (.tmp 57) 57 3 (.int .i64 0) 8 rfl Tryz.underlying57 info3 rfl (by decide) (by omega) v56 [] ([] : List Int) _ _ _ (fun k_ => some k_ ≠ (v60 : Value).ownBlock) (fun _ => False) rfl rfl ?aO ?aR (fun _ _ h => h) (fun _ h => h.elim) ?aF ?aB ?aS ?aL ?_
                    (case aR => exact (Kd.R_reads' (Kd.R_below HW.out HBr.out)).2.2)
                    (case aB => exact HBr.out)
                    (case aF => exact (fun k_ hk => Kd.fresh' (Kd.R_lt H60.out) k_ hk))
                    (case aO => exact H56.out)
                    (case aS => exact HBr.out.size)
                    (case aL => have := LM.out; simp only [List.length_nil]; omega)
                    intro v58 w58 ho hb hg hat
                    replace ho : Kd.R (Kd.int .i64) 3 w58 wr.heap.size (fun k_ => some k_ ≠ (v60 : Value).ownBlock) v58 ([] : List Int) := ho
                    replace H60 := Aside0.mk (Kd.R_mono (Kd.R_after (ok := fun _ => True) (Kd.R_mono H60.out (fun _ hk => ⟨trivial, hk⟩)) hg hat) (fun _ hk => hk.2))
                    have H58 := Aside0.mk ho
                    clear H56
                    replace HBr := Aside0.mk hb
                    clear ho hb hg hat
                    refine hK.out _ _ (((blk_cell (blk_below BKp.out HBr.out) 0).trans rfl)) (fun hHeld => ?_)
                    clear hK K
                    refine norm_ (a' := ?_) ?_ ?_
                    rotate_left
                    · show Act.put _ (some 58) _ = _
                      simp only [Act.put, List.setIfInBounds_toArray, List.set_cons_zero, List.set_cons_succ, i64_w, i32_w]
                      rfl
                    exact norm_ (by simp only [putAll, Act.put, List.setIfInBounds_toArray, List.set_cons_zero, List.set_cons_succ]) (hCont (v56, v58, v60) _ ⟨H58.out, H60.out, HBr.out⟩)
                · skip
                  refine Kd.R_lit_step (Kd.int .i64) _ 3 ?hg (N := 60) ?hd (xs := ([x9] : List Int)) (inner := [.int .i64 x9]) (ok := fun _ => True) (okp := fun _ => True) ?hr ?hp (fun _ hk => hk) trivial (Below.refl _ _) (Nat.le_refl _) (by simp) ?_; (case hd => rfl); (case hg => rfl); (case hr => first | (go_simp; done) | (go_simp; rfl)); (case hp => exact (Reps.one (show Kd.M (Kd.int .i64) _ _ _ x9 [.int .i64 x9] from rfl) (Reps.none _ _)))
                  intro v60 w60 ho hb hg_ hnew_
                  clear hg_ hnew_
                  have H60 := Aside0.mk (Kd.R_lower ho HBr.out.size)
                  replace HBr := Aside0.mk (below_step HBr.out hb)
                  clear hb ho
                  refine hK.out _ _ (((blk_cell (blk_below BKp.out HBr.out) 0).trans rfl)) (fun hHeld => ?_)
                  clear hK K
                  refine norm_ (a' := ?_) ?_ ?_
                  rotate_left
                  · show Act.put _ (some 60) _ = _
                    simp only [Act.put, List.setIfInBounds_toArray, List.set_cons_zero, List.set_cons_succ, i64_w, i32_w]
                    rfl
                  refine one_ (i := 1) (N := some 56) #[true, true, true, false, true, true, false, true, false] rfl rfl (by kernel_rfl) (by decide) (fun K hK => ?_)
                  refine Kd.R_lit_step (Kd.int .i64) _ 3 ?hg (N := 56) ?hd (xs := ([] : List Int)) (inner := []) (ok := fun _ => True) (okp := fun _ => True) ?hr ?hp (fun _ hk => hk) trivial (Below.refl _ _) (Nat.le_refl _) (by simp) ?_; (case hd => rfl); (case hg => rfl); (case hr => first | (go_simp; done) | (go_simp; rfl)); (case hp => exact Reps.none _ _)
                  intro v56 w56 ho hb hg_ hnew_
                  clear hg_ hnew_
                  have H56 := Aside0.mk (Kd.R_mono (Kd.R_lower (Kd.R_new' ho (Kd.R_lt H60.out)) HBr.out.size) (fun _ hk => hk.2))
                  replace H60 := Aside0.mk (Kd.R_mono (Kd.R_elder' H60.out (Kd.R_base ho) hb) (fun _ hk => hk.2))
                  replace HBr := Aside0.mk (below_step HBr.out hb)
                  clear hb ho
                  refine hK.out _ _ (((blk_cell (blk_below BKp.out HBr.out) 0).trans rfl)) (fun hHeld => ?_)
                  clear hK K
                  refine norm_ (a' := ?_) ?_ ?_
                  rotate_left
                  · show Act.put _ (some 56) _ = _
                    simp only [Act.put, List.setIfInBounds_toArray, List.set_cons_zero, List.set_cons_succ, i64_w, i32_w]
                    rfl
                  refine one_ (i := 3) (N := some 58) #[true, true, true, true, true, true, false, true, false] rfl rfl (by kernel_rfl) (by decide) (fun K hK => ?_)
                  refine Kd.R_append_rows_step (Kd.int .i64) (w0 := wr) wr.heap.size (by rfl) (.tmp 56) (.tmp 57) 57 3 (.int .i64 0) 8 rfl Tryz.underlying57 info3 rfl (by decide) (by omega) v56 [] ([] : List Int) _ _ _ (fun k_ => some k_ ≠ (v60 : Value).ownBlock) (fun _ => False) rfl rfl ?aO ?aR (fun _ _ h => h) (fun _ h => h.elim) ?aF ?aB ?aS ?aL ?_
                  (case aR => exact (Kd.R_reads' (Kd.R_below HW.out HBr.out)).2.2)
                  (case aB => exact HBr.out)
                  (case aF => exact (fun k_ hk => Kd.fresh' (Kd.R_lt H60.out) k_ hk))
                  (case aO => exact H56.out)
                  (case aS => exact HBr.out.size)
                  (case aL => have := LM.out; simp only [List.length_nil]; omega)
                  intro v58 w58 ho hb hg hat
                  replace ho : Kd.R (Kd.int .i64) 3 w58 wr.heap.size (fun k_ => some k_ ≠ (v60 : Value).ownBlock) v58 ([] : List Int) := ho
                  replace H60 := Aside0.mk (Kd.R_mono (Kd.R_after (ok := fun _ => True) (Kd.R_mono H60.out (fun _ hk => ⟨trivial, hk⟩)) hg hat) (fun _ hk => hk.2))
                  have H58 := Aside0.mk ho
                  clear H56
                  replace HBr := Aside0.mk hb
                  clear ho hb hg hat
                  refine hK.out _ _ (((blk_cell (blk_below BKp.out HBr.out) 0).trans rfl)) (fun hHeld => ?_)
                  clear hK K
                  refine norm_ (a' := ?_) ?_ ?_
                  rotate_left
                  · show Act.put _ (some 58) _ = _
                    simp only [Act.put, List.setIfInBounds_toArray, List.set_cons_zero, List.set_cons_succ, i64_w, i32_w]
                    rfl
                  exact norm_ (by simp only [putAll, Act.put, List.setIfInBounds_toArray, List.set_cons_zero, List.set_cons_succ]) (hCont (v56, v58, v60) _ ⟨H58.out, H60.out, HBr.out⟩)
              rintro ⟨v56, v58, v60⟩ w60 ⟨h0_, h1_, h2_⟩
              have H58 := Aside0.mk h0_
              have H60 := Aside0.mk h1_
              replace HBr := Aside0.mk h2_
              clear h0_ h1_ h2_
              have hHeld : w60.cell? ⟨gp, 0, none⟩ = some (.func (.func 94) #[] #[.pointer (some ⟨gw, 0, none⟩), .pointer (some ⟨go, 0, none⟩), .pointer (some ⟨gl, 0, none⟩), .pointer (some ⟨gp, 0, none⟩)]) := ((blk_cell (blk_below BKp.out HBr.out) 0).trans rfl)
              obtain ⟨A60, c60, e60⟩ := Kd.R_slice H60.out
              subst e60
              have e58_ : ∃ v_ : Value, v_ = v58 := ⟨_, rfl⟩
              refine norm_ (a' := ?_) ?_ ?_
              rotate_left
              · simp only [putAll, Act.put, List.setIfInBounds_toArray, List.set_cons_zero, List.set_cons_succ]
                rfl
              refine one_ (i := 6) (N := some 61) #[true, true, true, true, true, true, true, true, false] rfl rfl (by kernel_rfl) (by decide) (fun K hK => ?_)
              refine Kd.R_append_rows_step (Kd.int .i64) (w0 := wr) wr.heap.size (by rfl) (.tmp 58) (.tmp 60) 57 3 (.int .i64 0) 8 rfl Tryz.underlying57 info3 rfl (by decide) (by omega) v58 ([] : List Int) [x9] _ _ _ (fun k_ => some k_ ≠ (.slice A60 [x9].length c60 : Value).ownBlock) (fun _ => False) rfl rfl ?aO ?aR (fun _ _ h => h) (fun _ h => h.elim) ?aF ?aB ?aS ?aL ?_
              (case aR => exact (Kd.R_reads' H60.out).2.2)
              (case aB => exact HBr.out)
              (case aF => exact (fun k_ hk => Kd.fresh' (Kd.R_lt H60.out) k_ hk))
              (case aO => exact H58.out)
              (case aS => exact HBr.out.size)
              (case aL => have := LM.out; simp only [List.length_cons, List.length_nil]; omega)
              intro v61 w61 ho hb hg hat
              rw [← NY.out] at ho
              have H61 := Aside0.mk (Kd.R_mono (ok' := fun _ => True) ho (fun _ _ => trivial))
              replace HBr := Aside0.mk hb
              clear ho hb hg hat H58 H60
              obtain ⟨A61, c61, e61⟩ := Kd.R_slice H61.out
              subst e61
              refine hK.out _ _ (((blk_cell (blk_below BKp.out HBr.out) 0).trans rfl)) (fun hHeld => ?_)
              clear hK K
              refine norm_ (a' := ?_) ?_ ?_
              rotate_left
              · show Act.put _ (some 61) _ = _
                simp only [Act.put, List.setIfInBounds_toArray, List.set_cons_zero, List.set_cons_succ, i64_w, i32_w]
                rfl
              refine last_ (i := 8) (N := some 63) #[true, true, true, true, true, true, true, true, true] rfl rfl (by kernel_rfl) (by decide) (fun K hK => ?_)
              refine impl_Lock_least.goesC 55 #[.pointer (some ⟨gw, 0, none⟩), .pointer (some ⟨go, 0, none⟩), .pointer (some ⟨gl, 0, none⟩), .pointer (some ⟨gp, 0, none⟩)] #[.slice A61 y61.length c61, .int .i64 1] Tryz.func94 (by kernel_rfl) rfl (by rfl) rfl rfl rfl (by (try simp only [List.map_toArray, List.map_cons, List.map_nil]); first | done | rfl) ?_
              refine (ih kq (by have := HK1.out; omega) x3 y61 1 o3 _ vr A61 c61 ?_ (blk_below BKw.out HBr.out) (blk_below BKo.out HBr.out) (blk_below BKl.out HBr.out) (blk_below BKp.out HBr.out) (Kd.R_below HO.out HBr.out) (Kd.R_lower H61.out hszr) HP.out).mono ?_
              · exact below_then HB.out hszr HBr.out
              rintro e w9 ⟨rfl, v9_, hbo9, HO9, HB9, hk9, hat9⟩
              refine ⟨_, rfl, ?_⟩
              refine hK.out _ _ ?_
              clear hK K
              refine norm_ (a' := ?_) ?_ ?_
              rotate_left
              · show Act.put _ (some 63) _ = _
                simp only [Act.put, List.setIfInBounds_toArray, List.set_cons_zero, List.set_cons_succ, i64_w, i32_w]
                rfl
              refine done_ (by kernel_rfl) ?_
              try go_wp2
              go_roundg kq
              case measure => have := HK1.out; omega
              case rel => exact ⟨wrap64 (x9 + 1), o3, v9_, (by first | rfl | (simp; done) | (simp [*]; done)), H', ⟨by have := HK1.out; omega⟩, ⟨hbo9⟩, ⟨HO9⟩, ⟨HB9⟩, ⟨HKB.out.trans ((KeepBut.of_below HBr.out go vr.ownBlock).trans hk9 (Or.inl rfl)) HAT.out⟩, ⟨by
                rcases hat9 with e9 | ⟨b, e9, hb_⟩
                · rw [e9]; exact HAT.out
                · exact Or.inr ⟨b, e9, Nat.le_trans HKB.out.1 (Nat.le_trans HBr.out.size hb_)⟩⟩⟩
            · rw [if_neg c8] at H
              exact absurd H (by simp)
          · rw [if_neg c7] at H
            have c7b : decide (x9 < D) = false := decide_eq_false c7
            clear c7
            obtain rfl := Option.some.inj H
            go_wp2
            (try simp only [Exit.inBlock, Exit.then]); (first | refine bodyPost_ret (results_none rfl _ _ _) rfl ?_ | refine bodyPost_end (results_none rfl _ _ _) rfl ?_)
            exact ⟨rfl, vr, BKo.out, HO.out, HB.out, HKB.out, HAT.out⟩
set_option maxHeartbeats 8000000 in
set_option maxRecDepth 100000 in
theorem impl_Lock_least.calls (k : Nat) (a0_0 : Int) (a0_1 : Int) (a1 : Int) (r : List ByteArray) (w : World) (h : impl_Lock_least.f k a0_0 a0_1 a1 = some r) :
    Calls Tryz.prog 58 #[.agg #[.int .i64 a0_0, .int .i64 a0_1], .int .i64 a1] w fun e w' => ∃ v0_ : Value, e = .returned (v0_) ∧ Kd.R Kd.string 9 w' w.heap.size (fun _ => True) v0_ r ∧ Below w.heap.size w w' := by
  have HB := Aside0.mk (Below.refl w.heap.size w)
  have hu26 := Tryz.underlying23
  have hmf : ∀ (fn : Fn) (first cap : Array Value) (w : World), (Instr.makeFunc fn first cap).run Tryz.prog w = .ok (.func fn first cap) w := fun _ _ _ _ => rfl
  unfold impl_Lock_least.f at h
  have H := Aside0.mk h
  clear h
  go_enter Tryz.func58, Tryz.ntmps58
  go_wp2_with (first
    | ((with_reducible refine gate_dst (N := 2) rfl ?_); refine box_event ?hg (N := 2) ?hd (cs := #[.int .i64 a0_0, .int .i64 a0_1]) (t := 23) ?hr ?_; (case hd => rfl); (case hg => rfl); (case hr => first | (go_simp; done) | (go_simp; rfl)); intro gl hgl wl hbl hl; have BKl := Aside0.mk hbl; have GL := Aside0.mk hgl; replace HB := Aside0.mk (below_step HB.out hl); clear hbl hl hgl)
    | ((with_reducible refine gate_dst (N := 3) rfl ?_); refine box_event ?hg (N := 3) ?hd (cs := #[.int .i64 a1]) (t := 3) ?hr ?_; (case hd => rfl); (case hg => rfl); (case hr => first | (go_simp; done) | (go_simp; rfl)); intro gw hgw ww hbw hw; have BKw := Aside0.mk hbw; have GW := Aside0.mk hgw; replace HB := Aside0.mk (below_step HB.out hw); replace BKl := Aside0.mk (blk_below BKl.out hw); clear hbw hw hgw)
    | ((with_reducible refine gate_dst (N := 7) rfl ?_); refine Kd.R_lit Kd.string _ 9 ?hg (N := 7) ?hd (xs := ([] : List ByteArray)) (inner := []) (ok := fun _ => True) (okp := fun _ => True) ?hr ?hp (fun _ hk => hk) trivial (Below.refl _ _) (Nat.le_refl _) (by simp) ?_; (case hd => rfl); (case hg => rfl); (case hr => first | (go_simp; done) | (go_simp; rfl)); (case hp => exact (Reps.none _ _)); intro v7 w7 ho7 hb hg_ hnew_; clear hg_ hnew_; have HO := Aside0.mk (Kd.R_lower ho7 (below_size HB.out)); replace HB := Aside0.mk (below_step HB.out hb); replace BKl := Aside0.mk (blk_below BKl.out hb); replace BKw := Aside0.mk (blk_below BKw.out hb); obtain ⟨A7, c7, e7⟩ := Kd.R_slice ho7; subst e7; clear hb ho7)
    | ((with_reducible refine gate_dst (N := 5) rfl ?_); refine box_event ?hg (N := 5) ?hd (cs := #[.slice none 0 0]) (t := 26) ?hr ?_; (case hd => rfl); (case hg => rfl); (case hr => first | (go_simp; done) | (go_simp; rfl)); intro go hgo wo hbo ho; have BKo := Aside0.mk hbo; have GO := Aside0.mk (show w.heap.size ≤ go from by rw [hgo]; exact below_size HB.out); replace HB := Aside0.mk (below_step HB.out ho); replace BKl := Aside0.mk (blk_below BKl.out ho); replace BKw := Aside0.mk (blk_below BKw.out ho); replace HO := Aside0.mk (Kd.R_below HO.out ho); have hco : wo.cell? ⟨go, 0, none⟩ = some (.slice none 0 0) := (blk_cell hbo 0).trans rfl; have hfo := blk_frozen hbo 0; clear hbo ho hgo)
    | ((with_reducible refine gate_store (p := 5) rfl ?_); refine store_event (w1 := wo.setCell ⟨go, 0, none⟩ (.slice A7 0 c7)) rfl rfl rfl ?hr ?_; (case hr => first | (go_simp; done) | (go_simp; rfl)); intro w8 hw8; clear hco hfo; replace HB : Aside0 (Below w.heap.size w w8) := ⟨by rw [hw8]; exact below_set HB.out GO.out⟩; replace BKl : Aside0 (w8.heap[gl]? = some (.cells #[.int .i64 a0_0, .int .i64 a0_1] 23 (0, 0))) := ⟨by rw [hw8]; exact blk_far BKl.out (p := ⟨go, 0, none⟩) (blk_ne BKl.out BKo.out (by decide)) _⟩; replace BKw : Aside0 (w8.heap[gw]? = some (.cells #[.int .i64 a1] 3 (0, 0))) := ⟨by rw [hw8]; exact blk_far BKw.out (p := ⟨go, 0, none⟩) (blk_ne BKw.out BKo.out (by decide)) _⟩; replace HO : Aside0 (Kd.R Kd.string 9 w8 w.heap.size (fun _ => True) (.slice A7 0 c7) ([] : List ByteArray)) := ⟨by rw [hw8]; exact Kd.R_set HO.out BKo.out (by decide) 0 _⟩; replace BKo : Aside0 (w8.heap[go]? = some (.cells #[.slice A7 0 c7] 26 (0, 0))) := ⟨by rw [hw8]; exact blk_set BKo.out 0 _⟩; clear hw8)
    | ((with_reducible refine gate_dst (N := 6) rfl ?_); refine box_event ?hg (N := 6) ?hd (cs := #[.nilFunc]) (t := 89) ?hr ?_; (case hd => rfl); (case hg => rfl); (case hr => first | (go_simp; done) | (go_simp; rfl)); intro gp hgp wp hbp hp; have BKp := Aside0.mk hbp; have GP := Aside0.mk (show w.heap.size ≤ gp from by rw [hgp]; exact below_size HB.out); replace HB := Aside0.mk (below_step HB.out hp); replace BKl := Aside0.mk (blk_below BKl.out hp); replace BKw := Aside0.mk (blk_below BKw.out hp); replace BKo := Aside0.mk (blk_below BKo.out hp); replace HO := Aside0.mk (Kd.R_below HO.out hp); have hcp : wp.cell? ⟨gp, 0, none⟩ = some .nilFunc := (blk_cell hbp 0).trans rfl; have hfp := blk_frozen hbp 0; clear hbp hp hgp)
    | ((with_reducible refine gate_store (p := 6) rfl ?_); refine store_event (w1 := wp.setCell ⟨gp, 0, none⟩ (.func (.func 94) #[] #[.pointer (some ⟨gw, 0, none⟩), .pointer (some ⟨go, 0, none⟩), .pointer (some ⟨gl, 0, none⟩), .pointer (some ⟨gp, 0, none⟩)])) rfl rfl rfl ?hr ?_; (case hr => first | (go_simp; done) | (go_simp; rfl)); intro w9 hw9; clear hcp hfp; replace HB : Aside0 (Below w.heap.size w w9) := ⟨by rw [hw9]; exact below_set HB.out GP.out⟩; replace BKl : Aside0 (w9.heap[gl]? = some (.cells #[.int .i64 a0_0, .int .i64 a0_1] 23 (0, 0))) := ⟨by rw [hw9]; exact blk_far BKl.out (p := ⟨gp, 0, none⟩) (blk_ne BKl.out BKp.out (by decide)) _⟩; replace BKw : Aside0 (w9.heap[gw]? = some (.cells #[.int .i64 a1] 3 (0, 0))) := ⟨by rw [hw9]; exact blk_far BKw.out (p := ⟨gp, 0, none⟩) (blk_ne BKw.out BKp.out (by decide)) _⟩; replace BKo : Aside0 (w9.heap[go]? = some (.cells #[.slice A7 0 c7] 26 (0, 0))) := ⟨by rw [hw9]; exact blk_far BKo.out (p := ⟨gp, 0, none⟩) (blk_ne BKo.out BKp.out (by decide)) _⟩; replace HO : Aside0 (Kd.R Kd.string 9 w9 w.heap.size (fun _ => True) (.slice A7 0 c7) ([] : List ByteArray)) := ⟨by rw [hw9]; exact Kd.R_set HO.out BKp.out (by decide) 0 _⟩; replace BKp : Aside0 (w9.heap[gp]? = some (.cells #[(.func (.func 94) #[] #[.pointer (some ⟨gw, 0, none⟩), .pointer (some ⟨go, 0, none⟩), .pointer (some ⟨gl, 0, none⟩), .pointer (some ⟨gp, 0, none⟩)])] 89 (0, 0))) := ⟨by rw [hw9]; exact blk_set BKp.out 0 _⟩; clear hw9; have hcp : w9.cell? ⟨gp, 0, none⟩ = some (.func (.func 94) #[] #[.pointer (some ⟨gw, 0, none⟩), .pointer (some ⟨go, 0, none⟩), .pointer (some ⟨gl, 0, none⟩), .pointer (some ⟨gp, 0, none⟩)]) := (blk_cell BKp.out 0).trans rfl)
    | (go_at_call 94; have hc_ := impl_Lock_least.put_calls gw go gl gp a0_0 a1 a0_1 w GO.out k [] [] 1 r w9 (.slice A7 0 c7) none 0 HB.out BKw.out BKo.out BKl.out BKp.out HO.out (Kd.R_nil _ _ _ _ _) H.out; simp only [List.append_toArray, List.cons_append, List.nil_append] at hc_; refine hc_.mono ?_; clear hc_; rintro e w10 ⟨rfl, v10, hbo, HO', HB', hk, hat⟩; have hco10 : w10.cell? ⟨go, 0, none⟩ = some v10 := (blk_cell hbo 0).trans rfl; have HOX := Aside0.mk HO'; have HBX := Aside0.mk HB'; clear hbo HO' HB' hk hat))
  go_ret
  exact ⟨_, rfl, HOX.out, HBX.out⟩


/-! ### strings_Join: function 92 (a text of our own) -/
def strings_Join.f (l0 : List ByteArray) (a1 : ByteArray) : Option (ByteArray) := if l0.length ≤ 1000000 then (if (Lib.join (l0.map (·.data.toList)) a1.data.toList).length ≤ 140737488355328 then some ⟨(Lib.join (l0.map (·.data.toList)) a1.data.toList).toArray⟩ else none) else none
theorem strings_Join.calls (A0 : Option Addr) (c0 : Nat) (l0 : List ByteArray) (a1 : ByteArray) (r : ByteArray) (w : World) (hr0 : Kd.C Kd.string w A0 l0.length l0) (hc0 : l0.length ≤ c0) (h : strings_Join.f l0 a1 = some r) :
    Calls Tryz.prog 92 #[.slice A0 l0.length c0, .string a1] w fun e w' => e = .returned (.string r) ∧ Below w.heap.size w w' := by
  unfold strings_Join.f at h
  by_cases h1 : l0.length ≤ 1000000
  · rw [if_pos h1] at h
    by_cases h2 : (Lib.join (l0.map (·.data.toList)) a1.data.toList).length ≤ 140737488355328
    · rw [if_pos h2] at h
      obtain rfl := Option.some.inj h
      by_cases h3 : 0 < l0.length
      · obtain ⟨ad, e, hx⟩ := Kd.at_string hr0 0 (by omega) (by omega)
        obtain ⟨bk, o, sp⟩ := ad
        have hsp : sp = none := by
          have hx' : w.cell? ⟨bk, o, sp⟩ = some (.string (rdOf ByteArray.empty l0 0)) := hx
          unfold World.cell? at hx'
          cases sp with
          | none => rfl
          | some q =>
            exfalso
            simp only [Option.isSome_some, if_true] at hx'
            split at hx' <;> exact absurd hx' (by simp)
        subst hsp
        subst e
        refine (Tryz.strings_Join bk o c0 l0 a1 w ?_ ?_ (by omega) hc0 h2).mono fun e w' ⟨he, hw⟩ => ⟨he, hw⟩
        · intro j x hj
          have hl : j < l0.length := by
            rcases Nat.lt_or_ge j l0.length with q | q
            · exact q
            · rw [List.getElem?_eq_none q] at hj; cases hj
          obtain ⟨ad, e, hc⟩ := Kd.at_string hr0 (j : Int) (by omega) (by omega)
          obtain rfl := Option.some.inj e
          have e2 : rdOf ByteArray.empty l0 (j : Int) = x := by
            unfold rdOf
            rw [Int.toNat_natCast, List.getD_eq_getElem?_getD, hj]; rfl
          rw [e2, Int.toNat_natCast] at hc
          rw [← hc]
          congr 1
          unfold Addr.add
          split
          · subst_vars; rfl
          · rfl
        · exact World.block_lt_of_cell? w ⟨bk, o, none⟩ hx
      · have h4 : l0 = [] := List.length_eq_zero_iff.mp (by omega)
        subst h4
        refine (Tryz.strings_Join_none A0 c0 a1 w).mono fun e w' ⟨he, hw⟩ => ⟨he, ?_⟩
        rw [hw]; exact Below.refl _ _
    · rw [if_neg h2] at h; exact absurd h (by simp)
  · rw [if_neg h1] at h; exact absurd h (by simp)


/-! ### impl_Lock_ring: function 51 -/
def impl_Lock_ring.f (k : Nat) (a0_0 : Int) (a0_1 : Int) : Option (ByteArray) := (impl_Lock_least.f k a0_0 a0_1 a0_0).bind fun t112 => ((strings_Join.f t112 (⟨#[]⟩ : ByteArray)).bind fun t115 => (some t115))
theorem impl_Lock_ring.mono : ∀ a0 a1 k, LeO (impl_Lock_ring.f k a0 a1) (impl_Lock_ring.f (k + 1) a0 a1) := by
  intro a0 a1 k
  unfold impl_Lock_ring.f
  repeat' first
      | (with_reducible exact impl_Lock_least.mono _ _ _ _)
      | (with_reducible exact LeO.refl _)
      | (with_reducible exact LeO.none _)
      | (with_reducible refine LeO.ite ?_ ?_)
      | (with_reducible refine LeO.bind ?_ (fun _ => ?_))
      | exact impl_Lock_least.mono _ _ _ _
      | exact LeO.none _
      | refine LeO.ite ?_ ?_
      | refine LeO.bind ?_ (fun _ => ?_)
set_option maxHeartbeats 8000000 in
set_option maxRecDepth 100000 in
theorem impl_Lock_ring.calls (k : Nat) (a0_0 : Int) (a0_1 : Int) (r : ByteArray) (w : World) (h : impl_Lock_ring.f k a0_0 a0_1 = some r) :
    Calls Tryz.prog 51 #[.agg #[.int .i64 a0_0, .int .i64 a0_1]] w fun e w' => e = .returned (.string r) ∧ Below w.heap.size w w' := by
  have hu23 := Tryz.underlying23
  have HB := Aside0.mk (Below.refl w.heap.size w)
  have H : ((impl_Lock_least.f k a0_0 a0_1 a0_0).bind fun t112 => ((strings_Join.f t112 (⟨#[]⟩ : ByteArray)).bind fun t115 => (some t115))) = some r := h
  clear h
  replace H := Option.bind_eq_some_iff.mp H
  obtain ⟨t112, A20, H⟩ := H
  try dsimp only at H
  have A2 := Aside0.mk A20
  clear A20
  replace H := Option.bind_eq_some_iff.mp H
  obtain ⟨t115, A30, H⟩ := H
  try dsimp only at H
  have A3 := Aside0.mk A30
  clear A30
  obtain rfl := Option.some.inj H
  go_enter Tryz.func51, Tryz.ntmps51
  go_wp2_with (first | ((with_reducible refine gate_dst (N := 1) rfl ?_); refine box_event ?hg (N := 1) ?hd (cs := #[.int .i64 a0_0, .int .i64 a0_1]) (t := 23) ?hr ?_; (case hd => rfl); (case hg => rfl); (case hr => first | (go_simp; done) | (go_simp; rfl)); intro gb111 hg w4 hbox hb; have n0_ := bsx hb HB; have n1_ := Aside0.mk (hbox); have n2_ := gwx hg HB; have n3_ := n2_; clear HB; have HB := n0_; have BK111 := n1_; have GW111 := n2_; have GE111 := n3_; clear n0_ n1_ n2_ n3_; clear hb hbox hg; have hcz5_0 := cz0 BK111; have hcz5_1 := cz1 BK111; have hfz5_0 := blk_frozen BK111.out 0; have hfz5_1 := blk_frozen BK111.out 1) | ((with_reducible refine gate_callee (f := 58) rfl ?_); refine goesL_ (some 6) rfl rfl Tryz.func58 (by kernel_rfl) rfl #[.agg #[.int .i64 a0_0, .int .i64 a0_1], .int .i64 a0_0] rfl (by (try simp only [m_1, m_2, m_3]); first | done | rfl | (simp only [m_4, m_5]; rfl)) ?_; (with_reducible refine (impl_Lock_least.calls k a0_0 a0_1 a0_0 t112 _ A2.out).mono ?_); rintro e w6 ⟨v113, rfl, ho0, hb⟩; refine ⟨_, rfl, ?_⟩; have n0_ := Aside0.mk (Kd.R_lower ho0 (below_size (bB HB))); replace BK111 := bbx hb BK111; have n2_ := bsx hb HB; clear HB; have HO114 := n0_; have HB := n2_; clear n0_ n2_; (try clear hb); (try clear hb2); (try clear hk); (try clear hi); (try clear ho0); obtain ⟨Ao7, co7, eo7⟩ := Kd.R_slice HO114.out; subst eo7) | ((with_reducible refine gate_callee (f := 92) rfl ?_); refine goesL_ (some 7) rfl rfl Tryz.func92 (by kernel_rfl) rfl #[.slice Ao7 t112.length co7, .string (⟨#[]⟩ : ByteArray)] rfl (by (try simp only [m_1, m_2, m_3]); first | done | rfl | (simp only [m_4, m_5]; rfl)) ?_; (with_reducible refine (strings_Join.calls _ _ t112 (⟨#[]⟩ : ByteArray) t115 _ ?side1 ?side2 A3.out).mono ?_); (case side1 => repeat (first | exact (Kd.R_reads' HO114.out).2.2 | (with_reducible refine Kd.C_alloc ?_ _) | (with_reducible refine Kd.C_drewN ?_ _) | (with_reducible refine Kd.C_drew ?_))); (case side2 => exact (Kd.R_reads' HO114.out).2.1); rintro e w8 ⟨rfl, hb⟩; refine ⟨_, rfl, ?_⟩; have n0_ := Aside0.mk (Kd.R_below (by (with_reducible repeat (first | apply r_a | apply r_d | apply r_e)); exact HO114.out) hb); replace BK111 := bbx hb BK111; replace HB := bsx hb HB; clear HO114; have HO114 := n0_; clear n0_; (try clear hb); (try clear hb2); (try clear hk); (try clear hi)))
  go_ret
  exact ⟨by first | rfl | (simp [errW_none, errW_some] <;> rfl) | (simp [*, errW_none, errW_some] <;> rfl), bB HB⟩

/-! ### impl_LeastRing: function 6 -/
def impl_LeastRing.f (k : Nat) (a0_0 : Int) (a0_1 : Int) : Option (ByteArray × Bool) := (impl_isRounded.f k a0_0 a0_1).bind fun t117 => (if t117 = true then ((impl_Lock_ring.f k a0_0 a0_1).bind fun t118 => (some (t118, true))) else (some ((⟨#[]⟩ : ByteArray), false)))
theorem impl_LeastRing.mono : ∀ a0 a1 k, LeO (impl_LeastRing.f k a0 a1) (impl_LeastRing.f (k + 1) a0 a1) := by
  intro a0 a1 k
  unfold impl_LeastRing.f
  repeat' first
      | (with_reducible exact impl_Lock_ring.mono _ _ _)
      | (with_reducible exact impl_isRounded.mono _ _ _)
      | (with_reducible exact LeO.refl _)
      | (with_reducible exact LeO.none _)
      | (with_reducible refine LeO.ite ?_ ?_)
      | (with_reducible refine LeO.bind ?_ (fun _ => ?_))
      | exact impl_Lock_ring.mono _ _ _
      | exact impl_isRounded.mono _ _ _
      | exact LeO.none _
      | refine LeO.ite ?_ ?_
      | refine LeO.bind ?_ (fun _ => ?_)
set_option maxHeartbeats 8000000 in
set_option maxRecDepth 100000 in
theorem impl_LeastRing.calls (k : Nat) (a0_0 : Int) (a0_1 : Int) (r1 : ByteArray) (r2 : Bool) (w : World) (h : impl_LeastRing.f k a0_0 a0_1 = some (r1, r2)) :
    Calls Tryz.prog 6 #[.agg #[.int .i64 a0_0, .int .i64 a0_1]] w fun e w' => e = .returned (.tuple #[.string r1, .bool r2]) ∧ Below w.heap.size w w' := by
  have hu23 := Tryz.underlying23
  have HB := Aside0.mk (Below.refl w.heap.size w)
  have H : ((impl_isRounded.f k a0_0 a0_1).bind fun t117 => (if t117 = true then ((impl_Lock_ring.f k a0_0 a0_1).bind fun t118 => (some (t118, true))) else (some ((⟨#[]⟩ : ByteArray), false)))) = some (r1, r2) := h
  clear h
  replace H := Option.bind_eq_some_iff.mp H
  obtain ⟨t117, A20, H⟩ := H
  try dsimp only at H
  have A2 := Aside0.mk A20
  clear A20
  by_cases c3 : t117 = true
  rotate_left
  · replace c3 := Bool.eq_false_iff.mpr c3
    subst c3
    rw [if_neg (show ¬ (false = true) by decide)] at H
    simp only [Option.some.injEq, Prod.mk.injEq] at H
    obtain ⟨rfl, rfl⟩ := H
    go_enter Tryz.func6, Tryz.ntmps6
    go_wp2_with (first | ((with_reducible refine gate_dst (N := 1) rfl ?_); refine box_event ?hg (N := 1) ?hd (cs := #[.int .i64 a0_0, .int .i64 a0_1]) (t := 23) ?hr ?_; (case hd => rfl); (case hg => rfl); (case hr => first | (go_simp; done) | (go_simp; rfl)); intro gb116 hg w10 hbox hb; have n0_ := bsx hb HB; have n1_ := Aside0.mk (hbox); have n2_ := gwx hg HB; have n3_ := n2_; clear HB; have HB := n0_; have BK116 := n1_; have GW116 := n2_; have GE116 := n3_; clear n0_ n1_ n2_ n3_; clear hb hbox hg; have hcz11_0 := cz0 BK116; have hcz11_1 := cz1 BK116; have hfz11_0 := blk_frozen BK116.out 0; have hfz11_1 := blk_frozen BK116.out 1) | ((with_reducible refine gate_callee (f := 50) rfl ?_); refine goesL_ (some 5) rfl rfl Tryz.func50 (by kernel_rfl) rfl #[.agg #[.int .i64 a0_0, .int .i64 a0_1]] rfl (by (try simp only [m_1, m_2, m_3]); first | done | rfl | (simp only [m_4, m_5]; rfl)) ?_; (with_reducible refine (impl_isRounded.calls k a0_0 a0_1 false _ A2.out).mono ?_); rintro e w12 ⟨rfl, hb⟩; refine ⟨_, rfl, ?_⟩; replace BK116 := bbx hb BK116; replace HB := bsx hb HB; skip; (try clear hb); (try clear hb2); (try clear hk); (try clear hi)))
    go_ret2
    exact ⟨by first | rfl | (simp [errW_none, errW_some] <;> rfl) | (simp [*, errW_none, errW_some] <;> rfl), bB HB⟩

  subst c3
  rw [if_pos rfl] at H
  replace H := Option.bind_eq_some_iff.mp H
  obtain ⟨t118, A40, H⟩ := H
  try dsimp only at H
  have A4 := Aside0.mk A40
  clear A40
  simp only [Option.some.injEq, Prod.mk.injEq] at H
  obtain ⟨rfl, rfl⟩ := H
  go_enter Tryz.func6, Tryz.ntmps6
  go_wp2_with (first | ((with_reducible refine gate_dst (N := 1) rfl ?_); refine box_event ?hg (N := 1) ?hd (cs := #[.int .i64 a0_0, .int .i64 a0_1]) (t := 23) ?hr ?_; (case hd => rfl); (case hg => rfl); (case hr => first | (go_simp; done) | (go_simp; rfl)); intro gb116 hg w5 hbox hb; have n0_ := bsx hb HB; have n1_ := Aside0.mk (hbox); have n2_ := gwx hg HB; have n3_ := n2_; clear HB; have HB := n0_; have BK116 := n1_; have GW116 := n2_; have GE116 := n3_; clear n0_ n1_ n2_ n3_; clear hb hbox hg; have hcz6_0 := cz0 BK116; have hcz6_1 := cz1 BK116; have hfz6_0 := blk_frozen BK116.out 0; have hfz6_1 := blk_frozen BK116.out 1) | ((with_reducible refine gate_callee (f := 50) rfl ?_); refine goesL_ (some 5) rfl rfl Tryz.func50 (by kernel_rfl) rfl #[.agg #[.int .i64 a0_0, .int .i64 a0_1]] rfl (by (try simp only [m_1, m_2, m_3]); first | done | rfl | (simp only [m_4, m_5]; rfl)) ?_; (with_reducible refine (impl_isRounded.calls k a0_0 a0_1 true _ A2.out).mono ?_); rintro e w7 ⟨rfl, hb⟩; refine ⟨_, rfl, ?_⟩; replace BK116 := bbx hb BK116; replace HB := bsx hb HB; skip; (try clear hb); (try clear hb2); (try clear hk); (try clear hi); have hcz8_0 := cz0 BK116; have hcz8_1 := cz1 BK116; have hfz8_0 := blk_frozen BK116.out 0; have hfz8_1 := blk_frozen BK116.out 1) | ((with_reducible refine gate_callee (f := 51) rfl ?_); refine goesL_ (some 8) rfl rfl Tryz.func51 (by kernel_rfl) rfl #[.agg #[.int .i64 a0_0, .int .i64 a0_1]] rfl (by (try simp only [m_1, m_2, m_3]); first | done | rfl | (simp only [m_4, m_5]; rfl)) ?_; (with_reducible refine (impl_Lock_ring.calls k a0_0 a0_1 t118 _ A4.out).mono ?_); rintro e w9 ⟨rfl, hb⟩; refine ⟨_, rfl, ?_⟩; replace BK116 := bbx hb BK116; replace HB := bsx hb HB; skip; (try clear hb); (try clear hb2); (try clear hk); (try clear hi)))
  go_ret2
  exact ⟨by first | rfl | (simp [errW_none, errW_some] <;> rfl) | (simp [*, errW_none, errW_some] <;> rfl), bB HB⟩
/-! ### spec_whCount: function 63 -/
def spec_whCount.l0 : Nat → Int → Int → Int → Int → Option (Int)
  | 0, _, _, _, _ => none
  | k + 1, x3, x4, x120000, x120001 => if x4 > 0 then (spec_whCount.l0 k (wrap64 (x3 * x120001)) (wrap64 (x4 - 1)) x120000 x120001) else (some x3)
def spec_whCount.f (k : Nat) (a0_0 : Int) (a0_1 : Int) : Option (Int) := spec_whCount.l0 k 1 a0_0 a0_0 a0_1
theorem spec_whCount.mono_l : ∀ k, (∀ y0 y1 y2 y3, LeO (spec_whCount.l0 k y0 y1 y2 y3) (spec_whCount.l0 (k + 1) y0 y1 y2 y3))
  | 0 => fun _ _ _ _ r h => by simp [spec_whCount.l0] at h
  | k + 1 => by
    have ih0 := spec_whCount.mono_l k
    · intro y0 y1 y2 y3
      unfold spec_whCount.l0
      repeat' first
      | (with_reducible exact ih0 _ _ _ _)
      | (with_reducible exact LeO.refl _)
      | (with_reducible exact LeO.none _)
      | (with_reducible refine LeO.ite ?_ ?_)
      | (with_reducible refine LeO.bind ?_ (fun _ => ?_))
      | exact ih0 _ _ _ _
      | exact LeO.none _
      | refine LeO.ite ?_ ?_
      | refine LeO.bind ?_ (fun _ => ?_)
theorem spec_whCount.mono : ∀ a0 a1 k, LeO (spec_whCount.f k a0 a1) (spec_whCount.f (k + 1) a0 a1) := by
  intro a0 a1 k
  have ih0 := spec_whCount.mono_l k
  unfold spec_whCount.f
  repeat' first
      | (with_reducible exact ih0 _ _ _ _)
      | (with_reducible exact LeO.refl _)
      | (with_reducible exact LeO.none _)
      | (with_reducible refine LeO.ite ?_ ?_)
      | (with_reducible refine LeO.bind ?_ (fun _ => ?_))
      | exact ih0 _ _ _ _
      | exact LeO.none _
      | refine LeO.ite ?_ ?_
      | refine LeO.bind ?_ (fun _ => ?_)
set_option maxHeartbeats 8000000 in
set_option maxRecDepth 100000 in
theorem spec_whCount.calls (k : Nat) (a0_0 : Int) (a0_1 : Int) (r : Int) (w : World) (h : spec_whCount.f k a0_0 a0_1 = some r) :
    Calls Tryz.prog 63 #[.agg #[.int .i64 a0_0, .int .i64 a0_1]] w fun e w' => e = .returned (.int .i64 r) ∧ Below w.heap.size w w' := by
  have hu23 := Tryz.underlying23
  have HB := Aside0.mk (Below.refl w.heap.size w)
  have H : (spec_whCount.l0 k 1 a0_0 a0_0 a0_1) = some r := h
  clear h
  have H' := Aside0.mk H
  clear H
  go_enter Tryz.func63, Tryz.ntmps63
  go_wp2_with (first | ((with_reducible refine gate_dst (N := 1) rfl ?_); refine box_event ?hg (N := 1) ?hd (cs := #[.int .i64 a0_0, .int .i64 a0_1]) (t := 23) ?hr ?_; (case hd => rfl); (case hg => rfl); (case hr => first | (go_simp; done) | (go_simp; rfl)); intro gb119 hg w2 hbox hb; have n0_ := bsx hb HB; have n1_ := Aside0.mk (hbox); have n2_ := gwx hg HB; have n3_ := n2_; clear HB; have HB := n0_; have BK119 := n1_; have GW119 := n2_; have GE119 := n3_; clear n0_ n1_ n2_ n3_; clear hb hbox hg; have hcz3_0 := cz0 BK119; have hcz3_1 := cz1 BK119; have hfz3_0 := blk_frozen BK119.out 0; have hfz3_1 := blk_frozen BK119.out 1))
  go_loopg [3, 4] k (fun kq v3 v4 w' => ∃ (x3_1 : Int) (x4_1 : Int), v3 = .int .i64 x3_1 ∧ v4 = .int .i64 x4_1 ∧ Aside0 (spec_whCount.l0 kq x3_1 x4_1 a0_0 a0_1 = some r) ∧ Aside0 (kq ≤ k) ∧ Aside0 (w'.heap[gb119]? = some (.cells #[.int .i64 a0_0, .int .i64 a0_1] 23 (0, 0))) ∧ Aside0 (Below w.heap.size w w'))
  case atStart => exact ⟨(1), (a0_0), (by first | rfl | (simp; done) | (simp [*]; done)), (by first | rfl | (simp; done) | (simp [*]; done)), H', ⟨Nat.le_refl _⟩, ⟨bK BK119⟩, ⟨bB HB⟩⟩
  clear H'
  try clear hcz3_0
  try clear hcz3_1
  try clear hfz3_0
  try clear hfz3_1
  obtain ⟨x3_1, x4_1, rfl, rfl, HA, HK1, BK119, HB⟩ := hrel
  rcases gk with _ | k1
  · exact absurd HA.out (by simp [spec_whCount.l0])
  have H := HA.out
  clear HA
  simp only [spec_whCount.l0] at H
  by_cases c4 : x4_1 > 0
  rotate_left
  · rw [if_neg c4] at H
    have c4b0 : decide (0 < x4_1) = false := decide_eq_false c4
    clear c4
    obtain rfl := Option.some.inj H
    go_wp2
    go_ret
    exact ⟨by first | rfl | (simp [errW_none, errW_some] <;> rfl) | (simp [*, errW_none, errW_some] <;> rfl), bB HB⟩

  rw [if_pos c4] at H
  have c4b0 : decide (0 < x4_1) = true := decide_eq_true c4
  clear c4
  have H' := Aside0.mk H
  clear H
  have hcz5_0 := cz0 BK119
  have hcz5_1 := cz1 BK119
  have hfz5_0 := blk_frozen BK119.out 0
  have hfz5_1 := blk_frozen BK119.out 1
  go_wp2
  go_roundg k1
  case measure => have := HK1.out; omega
  case rel => exact ⟨(wrap64 (x3_1 * a0_1)), (wrap64 (x4_1 - 1)), (by first | rfl | (simp; done) | (simp [*]; done)), (by first | rfl | (simp; done) | (simp [*]; done)), H', ⟨by have := HK1.out; omega⟩, ⟨bK BK119⟩, ⟨bB HB⟩⟩
/-! ### spec_l1In: function 73 -/
def spec_l1In.f (a0 : Int) (a1 : Int) (a2 : Int) : Option (Bool) := if a0 ≥ a1 then (some (decide (a0 ≤ a2))) else (some false)
set_option maxHeartbeats 8000000 in
set_option maxRecDepth 100000 in
theorem spec_l1In.calls (a0 : Int) (a1 : Int) (a2 : Int) (r : Bool) (w : World) (h : spec_l1In.f a0 a1 a2 = some r) :
    Calls Tryz.prog 73 #[.int .i64 a0, .int .i64 a1, .int .i64 a2] w fun e w' => e = .returned (.bool r) ∧ Drawn0 w w' := by
  have H : (if a0 ≥ a1 then (some (decide (a0 ≤ a2))) else (some false)) = some r := h
  clear h
  by_cases c4 : a0 ≥ a1
  · rw [if_pos c4] at H
    have c4b0 : decide (a1 ≤ a0) = true := decide_eq_true c4
    clear c4
    obtain rfl := Option.some.inj H
    go_enter Tryz.func73, Tryz.ntmps73
    go_wp2
    go_ret
    exact ⟨by first | rfl | (simp; done) | (simp [*]; done), by repeat (first | exact Drawn0.refl _ | apply Drawn0.step)⟩
  rw [if_neg c4] at H
  have c4b0 : decide (a1 ≤ a0) = false := decide_eq_false c4
  clear c4
  obtain rfl := Option.some.inj H
  go_enter Tryz.func73, Tryz.ntmps73
  go_wp2
  go_ret
  exact ⟨by first | rfl | (simp; done) | (simp [*]; done), by repeat (first | exact Drawn0.refl _ | apply Drawn0.step)⟩

/-! ### spec_whGood: function 93 -/
def spec_whGood.f (a0_0 : Int) (a0_1 : Int) : Option (Bool) := (spec_l1In.f a0_0 1 6).bind fun t121 => (if t121 = true then ((spec_l1In.f a0_1 2 10).bind fun t122 => (some t122)) else (some false))
set_option maxHeartbeats 8000000 in
set_option maxRecDepth 100000 in
theorem spec_whGood.calls (a0_0 : Int) (a0_1 : Int) (r : Bool) (w : World) (h : spec_whGood.f a0_0 a0_1 = some r) :
    Calls Tryz.prog 93 #[.agg #[.int .i64 a0_0, .int .i64 a0_1]] w fun e w' => e = .returned (.bool r) ∧ Below w.heap.size w w' := by
  have hu23 := Tryz.underlying23
  have HB := Aside0.mk (Below.refl w.heap.size w)
  have H : ((spec_l1In.f a0_0 1 6).bind fun t121 => (if t121 = true then ((spec_l1In.f a0_1 2 10).bind fun t122 => (some t122)) else (some false))) = some r := h
  clear h
  replace H := Option.bind_eq_some_iff.mp H
  obtain ⟨t121, A20, H⟩ := H
  try dsimp only at H
  have A2 := Aside0.mk A20
  clear A20
  by_cases c3 : t121 = true
  rotate_left
  · replace c3 := Bool.eq_false_iff.mpr c3
    subst c3
    rw [if_neg (show ¬ (false = true) by decide)] at H
    obtain rfl := Option.some.inj H
    go_enter Tryz.func93, Tryz.ntmps93
    go_wp2_with (first | ((with_reducible refine gate_dst (N := 1) rfl ?_); refine box_event ?hg (N := 1) ?hd (cs := #[.int .i64 a0_0, .int .i64 a0_1]) (t := 23) ?hr ?_; (case hd => rfl); (case hg => rfl); (case hr => first | (go_simp; done) | (go_simp; rfl)); intro gb120 hg w7 hbox hb; have n0_ := bsx hb HB; have n1_ := Aside0.mk (hbox); have n2_ := gwx hg HB; have n3_ := n2_; clear HB; have HB := n0_; have BK120 := n1_; have GW120 := n2_; have GE120 := n3_; clear n0_ n1_ n2_ n3_; clear hb hbox hg; have hcz8_0 := cz0 BK120; have hcz8_1 := cz1 BK120; have hfz8_0 := blk_frozen BK120.out 0; have hfz8_1 := blk_frozen BK120.out 1) | ((with_reducible refine gate_callee (f := 73) rfl ?_); refine goesL_ (some 5) rfl rfl Tryz.func73 (by kernel_rfl) rfl #[.int .i64 a0_0, .int .i64 1, .int .i64 6] rfl (by (try simp only [m_1, m_2, m_3]); first | done | rfl | (simp only [m_4, m_5]; rfl)) ?_; (with_reducible refine (spec_l1In.calls a0_0 1 6 false _ A2.out).mono ?_); rintro e w' ⟨rfl, ⟨nd, rfl⟩⟩; refine ⟨_, rfl, ?_⟩))
    go_ret
    exact ⟨by first | rfl | (simp [errW_none, errW_some] <;> rfl) | (simp [*, errW_none, errW_some] <;> rfl), bB HB⟩

  subst c3
  rw [if_pos rfl] at H
  replace H := Option.bind_eq_some_iff.mp H
  obtain ⟨t122, A40, H⟩ := H
  try dsimp only at H
  have A4 := Aside0.mk A40
  clear A40
  obtain rfl := Option.some.inj H
  go_enter Tryz.func93, Tryz.ntmps93
  go_wp2_with (first | ((with_reducible refine gate_dst (N := 1) rfl ?_); refine box_event ?hg (N := 1) ?hd (cs := #[.int .i64 a0_0, .int .i64 a0_1]) (t := 23) ?hr ?_; (case hd => rfl); (case hg => rfl); (case hr => first | (go_simp; done) | (go_simp; rfl)); intro gb120 hg w5 hbox hb; have n0_ := bsx hb HB; have n1_ := Aside0.mk (hbox); have n2_ := gwx hg HB; have n3_ := n2_; clear HB; have HB := n0_; have BK120 := n1_; have GW120 := n2_; have GE120 := n3_; clear n0_ n1_ n2_ n3_; clear hb hbox hg; have hcz6_0 := cz0 BK120; have hcz6_1 := cz1 BK120; have hfz6_0 := blk_frozen BK120.out 0; have hfz6_1 := blk_frozen BK120.out 1) | ((with_reducible refine gate_callee (f := 73) rfl ?_); refine goesL_ (some 5) rfl rfl Tryz.func73 (by kernel_rfl) rfl #[.int .i64 a0_0, .int .i64 1, .int .i64 6] rfl (by (try simp only [m_1, m_2, m_3]); first | done | rfl | (simp only [m_4, m_5]; rfl)) ?_; (with_reducible refine (spec_l1In.calls a0_0 1 6 true _ A2.out).mono ?_); rintro e w' ⟨rfl, ⟨nd, rfl⟩⟩; refine ⟨_, rfl, ?_⟩) | (go_at_call 73; (with_reducible refine (spec_l1In.calls a0_1 2 10 t122 _ A4.out).mono ?_); rintro e w' ⟨rfl, ⟨nd, rfl⟩⟩))
  go_ret
  exact ⟨by first | rfl | (simp [errW_none, errW_some] <;> rfl) | (simp [*, errW_none, errW_some] <;> rfl), bB HB⟩
end Go.Proofs.YtmpcefcgboljkaaGreat.P
