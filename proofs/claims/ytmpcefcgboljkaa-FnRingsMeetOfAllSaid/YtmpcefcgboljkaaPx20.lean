-- Texts of this session's own program (wip/dr.py), which runs the kit's printer.
import Derived.Test.YtmpcefcgboljkaaPx0
import Derived.Test.YtmpcefcgboljkaaPx1
namespace Go.Proofs.Ytmpcefcgboljkaa.P
open Go.RowKit Go.Proofs.YtmpcefcgboljkaaW.PrintWords Go.Proofs.YtmpcefcgboljkaaW.PrintLast Go.Proofs.YtmpcefcgboljkaaW.PrintMore
attribute [local go_sem] max2_int min2_int max_two min_two max_three min_three max_four min_four   -- for this text's walks alone
set_option linter.unusedVariables false
set_option linter.unusedSimpArgs false

/-! ### impl_Lock_isText: function 57 -/
def impl_Lock_isText.l0 : Nat → ByteArray → Int → Int → Int → Int → Option (Bool)
  | 0, _, _, _, _, _ => none
  | k + 1, x1, x7, x8, x168000, x168001 => if x8 < x7 then (if 0 ≤ x8 then (if x8 < (x1.size : Int) then ((impl_within.f (wrap64 (bt x1 x8)) 48 (wrap64 ((wrap64 (48 + x168001)) - 1))).bind fun t168 => (if t168 = true then (impl_Lock_isText.l0 k x1 x7 (wrap64 (x8 + 1)) x168000 x168001) else (some false))) else (none)) else (none)) else (some true)
def impl_Lock_isText.f (k : Nat) (a0_0 : Int) (a0_1 : Int) (a1 : ByteArray) : Option (Bool) := impl_Lock_isText.l0 k a1 (a1.size : Int) 0 a0_0 a0_1
theorem impl_Lock_isText.mono_l : ∀ k, (∀ y0 y1 y2 y3 y4, LeO (impl_Lock_isText.l0 k y0 y1 y2 y3 y4) (impl_Lock_isText.l0 (k + 1) y0 y1 y2 y3 y4))
  | 0 => fun _ _ _ _ _ r h => by simp [impl_Lock_isText.l0] at h
  | k + 1 => by
    have ih0 := impl_Lock_isText.mono_l k
    · intro y0 y1 y2 y3 y4
      unfold impl_Lock_isText.l0
      repeat' first
      | (with_reducible exact ih0 _ _ _ _ _)
      | (with_reducible exact LeO.refl _)
      | (with_reducible exact LeO.none _)
      | (with_reducible refine LeO.ite ?_ ?_)
      | (with_reducible refine LeO.bind ?_ (fun _ => ?_))
      | exact ih0 _ _ _ _ _
      | exact LeO.none _
      | refine LeO.ite ?_ ?_
      | refine LeO.bind ?_ (fun _ => ?_)
theorem impl_Lock_isText.mono : ∀ a0 a1 a2 k, LeO (impl_Lock_isText.f k a0 a1 a2) (impl_Lock_isText.f (k + 1) a0 a1 a2) := by
  intro a0 a1 a2 k
  have ih0 := impl_Lock_isText.mono_l k
  unfold impl_Lock_isText.f
  repeat' first
      | (with_reducible exact ih0 _ _ _ _ _)
      | (with_reducible exact LeO.refl _)
      | (with_reducible exact LeO.none _)
      | (with_reducible refine LeO.ite ?_ ?_)
      | (with_reducible refine LeO.bind ?_ (fun _ => ?_))
      | exact ih0 _ _ _ _ _
      | exact LeO.none _
      | refine LeO.ite ?_ ?_
      | refine LeO.bind ?_ (fun _ => ?_)
set_option maxHeartbeats 8000000 in
set_option maxRecDepth 100000 in
theorem impl_Lock_isText.calls (k : Nat) (a0_0 : Int) (a0_1 : Int) (a1 : ByteArray) (r : Bool) (w : World) (h : impl_Lock_isText.f k a0_0 a0_1 a1 = some r) :
    Calls Try.prog 57 #[.agg #[.int .i64 a0_0, .int .i64 a0_1], .string a1] w fun e w' => e = .returned (.bool r) ∧ Below w.heap.size w w' := by
  have hu26 := Try.underlying26
  have HB := Aside0.mk (Below.refl w.heap.size w)
  have H : (impl_Lock_isText.l0 k a1 (a1.size : Int) 0 a0_0 a0_1) = some r := h
  clear h
  have H' := Aside0.mk H
  clear H
  go_enter Try.func57, Try.ntmps57
  go_wp2_with (first | ((with_reducible refine gate_dst (N := 2) rfl ?_); refine box_event ?hg (N := 2) ?hd (cs := #[.int .i64 a0_0, .int .i64 a0_1]) (t := 26) ?hr ?_; (case hd => rfl); (case hg => rfl); (case hr => first | (go_simp; done) | (go_simp; rfl)); intro gb167 hg w3 hbox hb; have n0_ := bsx hb HB; have n1_ := Aside0.mk (hbox); have n2_ := gwx hg HB; have n3_ := n2_; clear HB; have HB := n0_; have BK167 := n1_; have GW167 := n2_; have GE167 := n3_; clear n0_ n1_ n2_ n3_; clear hb hbox hg))
  repeat (go_quiet (first | ((with_reducible refine gate_dst (N := 2) rfl ?_); refine box_event ?hg (N := 2) ?hd (cs := #[.int .i64 a0_0, .int .i64 a0_1]) (t := 26) ?hr ?_; (case hd => rfl); (case hg => rfl); (case hr => first | (go_simp; done) | (go_simp; rfl)); intro gb167 hg w3 hbox hb; have n0_ := bsx hb HB; have n1_ := Aside0.mk (hbox); have n2_ := gwx hg HB; have n3_ := n2_; clear HB; have HB := n0_; have BK167 := n1_; have GW167 := n2_; have GE167 := n3_; clear n0_ n1_ n2_ n3_; clear hb hbox hg)); try go_wp2_with (first | ((with_reducible refine gate_dst (N := 2) rfl ?_); refine box_event ?hg (N := 2) ?hd (cs := #[.int .i64 a0_0, .int .i64 a0_1]) (t := 26) ?hr ?_; (case hd => rfl); (case hg => rfl); (case hr => first | (go_simp; done) | (go_simp; rfl)); intro gb167 hg w3 hbox hb; have n0_ := bsx hb HB; have n1_ := Aside0.mk (hbox); have n2_ := gwx hg HB; have n3_ := n2_; clear HB; have HB := n0_; have BK167 := n1_; have GW167 := n2_; have GE167 := n3_; clear n0_ n1_ n2_ n3_; clear hb hbox hg)))
  go_loopg [8] k (fun kq v8 w' => ∃ (x8_1 : Int), v8 = .int .i64 x8_1 ∧ Aside0 (impl_Lock_isText.l0 kq a1 (a1.size : Int) x8_1 a0_0 a0_1 = some r) ∧ Aside0 (kq ≤ k) ∧ Aside0 (w'.heap[gb167]? = some (.cells #[.int .i64 a0_0, .int .i64 a0_1] 26 (0, 0))) ∧ Aside0 (Below w.heap.size w w'))
  case atStart => exact ⟨(0), (by first | rfl | (simp; done) | (simp [*]; done)), H', ⟨Nat.le_refl _⟩, ⟨bK BK167⟩, ⟨bB HB⟩⟩
  clear H'
  obtain ⟨x8_1, rfl, HA, HK1, BK167, HB⟩ := hrel
  rcases gk with _ | k1
  · exact absurd HA.out (by simp [impl_Lock_isText.l0])
  have H := HA.out
  clear HA
  simp only [impl_Lock_isText.l0] at H
  by_cases c4 : x8_1 < (a1.size : Int)
  rotate_left
  · rw [if_neg c4] at H
    have c4b0 : decide (x8_1 < (a1.size : Int)) = false := decide_eq_false c4
    clear c4
    obtain rfl := Option.some.inj H
    go_wp2
    repeat (go_quiet (fail); try go_wp2)
    go_ret
    exact ⟨by first | rfl | (simp [errW_none, errW_some] <;> rfl) | (simp [*, errW_none, errW_some] <;> rfl), bB HB⟩

  rw [if_pos c4] at H
  have c4b0 : decide (x8_1 < (a1.size : Int)) = true := decide_eq_true c4
  clear c4
  by_cases c5 : 0 ≤ x8_1
  rotate_left
  · rw [if_neg c5] at H
    exact absurd H (by simp)
  rw [if_pos c5] at H
  have c5b0 : decide (0 ≤ x8_1) = true := decide_eq_true c5
  clear c5
  by_cases c6 : x8_1 < (a1.size : Int)
  rotate_left
  · rw [if_neg c6] at H
    exact absurd H (by simp)
  rw [if_pos c6] at H
  have c6b0 : decide (x8_1 < (a1.size : Int)) = true := decide_eq_true c6
  clear c6
  replace H := Option.bind_eq_some_iff.mp H
  obtain ⟨t168, A80, H⟩ := H
  try dsimp only at H
  have A8 := Aside0.mk A80
  clear A80
  by_cases c9 : t168 = true
  rotate_left
  · replace c9 := Bool.eq_false_iff.mpr c9
    subst c9
    rw [if_neg (show ¬ (false = true) by decide)] at H
    obtain rfl := Option.some.inj H
    have p7 : 0 ≤ (x8_1 : Int) := of_decide_eq_true (by first | (with_reducible assumption) | assumption)
    have q7 : x8_1 < (a1.size : Int) := of_decide_eq_true (by first | (with_reducible assumption) | assumption)
    have hx7 := bt_at a1 x8_1
    replace p7 := eq_true p7
    replace q7 := eq_true q7
    have hcz11_0 := cz0 BK167
    have hcz11_1 := cz1 BK167
    have hfz11_0 := blk_frozen BK167.out 0
    have hfz11_1 := blk_frozen BK167.out 1
    go_wp2_with (first | (go_at_call 43; (with_reducible refine (impl_within.calls (wrap64 (bt a1 x8_1)) 48 (wrap64 ((wrap64 (48 + a0_1)) - 1)) false _ A8.out).mono ?_); rintro e w' ⟨rfl, ⟨nd, rfl⟩⟩; (try first | exact ⟨rfl, _, World.drewN_drewN _ _ _⟩ | exact ⟨rfl, _, Eq.trans (World.drewN_drewN _ _ _) (congrArg (World.drewN _) (Nat.add_assoc _ _ _))⟩)))
    repeat (go_quiet (first | (go_at_call 43; (with_reducible refine (impl_within.calls (wrap64 (bt a1 x8_1)) 48 (wrap64 ((wrap64 (48 + a0_1)) - 1)) false _ A8.out).mono ?_); rintro e w' ⟨rfl, ⟨nd, rfl⟩⟩; (try first | exact ⟨rfl, _, World.drewN_drewN _ _ _⟩ | exact ⟨rfl, _, Eq.trans (World.drewN_drewN _ _ _) (congrArg (World.drewN _) (Nat.add_assoc _ _ _))⟩))); try go_wp2_with (first | (go_at_call 43; (with_reducible refine (impl_within.calls (wrap64 (bt a1 x8_1)) 48 (wrap64 ((wrap64 (48 + a0_1)) - 1)) false _ A8.out).mono ?_); rintro e w' ⟨rfl, ⟨nd, rfl⟩⟩; (try first | exact ⟨rfl, _, World.drewN_drewN _ _ _⟩ | exact ⟨rfl, _, Eq.trans (World.drewN_drewN _ _ _) (congrArg (World.drewN _) (Nat.add_assoc _ _ _))⟩))))
    go_ret
    exact ⟨by first | rfl | (simp [errW_none, errW_some] <;> rfl) | (simp [*, errW_none, errW_some] <;> rfl), bB HB⟩
  subst c9
  rw [if_pos rfl] at H
  have H' := Aside0.mk H
  clear H
  have p7 : 0 ≤ (x8_1 : Int) := of_decide_eq_true (by first | (with_reducible assumption) | assumption)
  have q7 : x8_1 < (a1.size : Int) := of_decide_eq_true (by first | (with_reducible assumption) | assumption)
  have hx7 := bt_at a1 x8_1
  replace p7 := eq_true p7
  replace q7 := eq_true q7
  have hcz10_0 := cz0 BK167
  have hcz10_1 := cz1 BK167
  have hfz10_0 := blk_frozen BK167.out 0
  have hfz10_1 := blk_frozen BK167.out 1
  go_wp2_with (first | (go_at_call 43; (with_reducible refine (impl_within.calls (wrap64 (bt a1 x8_1)) 48 (wrap64 ((wrap64 (48 + a0_1)) - 1)) true _ A8.out).mono ?_); rintro e w' ⟨rfl, ⟨nd, rfl⟩⟩; (try first | exact ⟨rfl, _, World.drewN_drewN _ _ _⟩ | exact ⟨rfl, _, Eq.trans (World.drewN_drewN _ _ _) (congrArg (World.drewN _) (Nat.add_assoc _ _ _))⟩)))
  repeat (go_quiet (first | (go_at_call 43; (with_reducible refine (impl_within.calls (wrap64 (bt a1 x8_1)) 48 (wrap64 ((wrap64 (48 + a0_1)) - 1)) true _ A8.out).mono ?_); rintro e w' ⟨rfl, ⟨nd, rfl⟩⟩; (try first | exact ⟨rfl, _, World.drewN_drewN _ _ _⟩ | exact ⟨rfl, _, Eq.trans (World.drewN_drewN _ _ _) (congrArg (World.drewN _) (Nat.add_assoc _ _ _))⟩))); try go_wp2_with (first | (go_at_call 43; (with_reducible refine (impl_within.calls (wrap64 (bt a1 x8_1)) 48 (wrap64 ((wrap64 (48 + a0_1)) - 1)) true _ A8.out).mono ?_); rintro e w' ⟨rfl, ⟨nd, rfl⟩⟩; (try first | exact ⟨rfl, _, World.drewN_drewN _ _ _⟩ | exact ⟨rfl, _, Eq.trans (World.drewN_drewN _ _ _) (congrArg (World.drewN _) (Nat.add_assoc _ _ _))⟩))))
  go_roundg k1
  case measure => have := HK1.out; omega
  case rel => exact ⟨(wrap64 (x8_1 + 1)), (by first | rfl | (simp; done) | (simp [*]; done)), H', ⟨by have := HK1.out; omega⟩, ⟨bK BK167⟩, ⟨bB HB⟩⟩
/-! ### impl_Lock_isCode: function 53 -/
def impl_Lock_isCode.f (k : Nat) (a0_0 : Int) (a0_1 : Int) (a1 : ByteArray) : Option (Bool) := if (a1.size : Int) = a0_0 then ((impl_Lock_isText.f k a0_0 a0_1 a1).bind fun t170 => (some t170)) else (some false)
theorem impl_Lock_isCode.mono : ∀ a0 a1 a2 k, LeO (impl_Lock_isCode.f k a0 a1 a2) (impl_Lock_isCode.f (k + 1) a0 a1 a2) := by
  intro a0 a1 a2 k
  unfold impl_Lock_isCode.f
  repeat' first
      | (with_reducible exact impl_Lock_isText.mono _ _ _ _)
      | (with_reducible exact LeO.refl _)
      | (with_reducible exact LeO.none _)
      | (with_reducible refine LeO.ite ?_ ?_)
      | (with_reducible refine LeO.bind ?_ (fun _ => ?_))
      | exact impl_Lock_isText.mono _ _ _ _
      | exact LeO.none _
      | refine LeO.ite ?_ ?_
      | refine LeO.bind ?_ (fun _ => ?_)
set_option maxHeartbeats 8000000 in
set_option maxRecDepth 100000 in
theorem impl_Lock_isCode.calls (k : Nat) (a0_0 : Int) (a0_1 : Int) (a1 : ByteArray) (r : Bool) (w : World) (h : impl_Lock_isCode.f k a0_0 a0_1 a1 = some r) :
    Calls Try.prog 53 #[.agg #[.int .i64 a0_0, .int .i64 a0_1], .string a1] w fun e w' => e = .returned (.bool r) ∧ Below w.heap.size w w' := by
  have hu26 := Try.underlying26
  have HB := Aside0.mk (Below.refl w.heap.size w)
  have H : (if (a1.size : Int) = a0_0 then ((impl_Lock_isText.f k a0_0 a0_1 a1).bind fun t170 => (some t170)) else (some false)) = some r := h
  clear h
  by_cases c3 : (a1.size : Int) = a0_0
  rotate_left
  · rw [if_neg c3] at H
    have c3b0 : ((a1.size : Int) == a0_0) = false := beq_eq_false_iff_ne.mpr c3
    have c3b1 : ((a1.size : Int) != a0_0) = true := bne_iff_ne.mpr c3
    obtain rfl := Option.some.inj H
    go_enter Try.func53, Try.ntmps53
    go_wp2_with (first | ((with_reducible refine gate_dst (N := 2) rfl ?_); refine box_event ?hg (N := 2) ?hd (cs := #[.int .i64 a0_0, .int .i64 a0_1]) (t := 26) ?hr ?_; (case hd => rfl); (case hg => rfl); (case hr => first | (go_simp; done) | (go_simp; rfl)); intro gb169 hg w8 hbox hb; have n0_ := bsx hb HB; have n1_ := Aside0.mk (hbox); have n2_ := gwx hg HB; have n3_ := n2_; clear HB; have HB := n0_; have BK169 := n1_; have GW169 := n2_; have GE169 := n3_; clear n0_ n1_ n2_ n3_; clear hb hbox hg; have hcz9_0 := cz0 BK169; have hcz9_1 := cz1 BK169; have hfz9_0 := blk_frozen BK169.out 0; have hfz9_1 := blk_frozen BK169.out 1))
    go_ret
    exact ⟨by first | rfl | (simp [errW_none, errW_some] <;> rfl) | (simp [*, errW_none, errW_some] <;> rfl), bB HB⟩

  rw [if_pos c3] at H
  have c3b0 : ((a1.size : Int) == a0_0) = true := beq_iff_eq.mpr c3
  have c3b1 : ((a1.size : Int) != a0_0) = false := bne_eq_false_iff_eq.mpr c3
  clear c3
  replace H := Option.bind_eq_some_iff.mp H
  obtain ⟨t170, A40, H⟩ := H
  try dsimp only at H
  have A4 := Aside0.mk A40
  clear A40
  obtain rfl := Option.some.inj H
  go_enter Try.func53, Try.ntmps53
  go_wp2_with (first | ((with_reducible refine gate_dst (N := 2) rfl ?_); refine box_event ?hg (N := 2) ?hd (cs := #[.int .i64 a0_0, .int .i64 a0_1]) (t := 26) ?hr ?_; (case hd => rfl); (case hg => rfl); (case hr => first | (go_simp; done) | (go_simp; rfl)); intro gb169 hg w5 hbox hb; have n0_ := bsx hb HB; have n1_ := Aside0.mk (hbox); have n2_ := gwx hg HB; have n3_ := n2_; clear HB; have HB := n0_; have BK169 := n1_; have GW169 := n2_; have GE169 := n3_; clear n0_ n1_ n2_ n3_; clear hb hbox hg; have hcz6_0 := cz0 BK169; have hcz6_1 := cz1 BK169; have hfz6_0 := blk_frozen BK169.out 0; have hfz6_1 := blk_frozen BK169.out 1) | (go_at_call 57; (with_reducible refine (impl_Lock_isText.calls k a0_0 a0_1 a1 t170 _ A4.out).mono ?_); rintro e w7 ⟨rfl, hb⟩; replace BK169 := bbx hb BK169; replace HB := bsx hb HB; skip; (try clear hb); (try clear hb2); (try clear hk); (try clear hi)))
  go_ret
  exact ⟨by first | rfl | (simp [errW_none, errW_some] <;> rfl) | (simp [*, errW_none, errW_some] <;> rfl), bB HB⟩
/-! ### impl_has: function 30 -/
def impl_has.l0 : Nat → List ByteArray → Int → Int → Int → Int → Option (Bool)
  | 0, _, _, _, _, _ => none
  | k + 1, x10, x11, x12, x172000, x172001 => if x12 < x11 then (if 0 ≤ x12 then (if x12 < (x10.length : Int) then ((impl_Lock_isCode.f k x172000 x172001 (rdOf ByteArray.empty x10 x12)).bind fun t174 => (if t174 = true then (impl_has.l0 k x10 x11 (wrap64 (x12 + 1)) x172000 x172001) else (some false))) else (none)) else (none)) else (some true)
def impl_has.f (k : Nat) (a0_0 : Int) (a0_1 : Int) (l1 : List ByteArray) : Option (Bool) := (impl_IsLock.f a0_0 a0_1).bind fun t172 => (if t172 = true then (impl_has.l0 k l1 (l1.length : Int) 0 a0_0 a0_1) else (some false))
theorem impl_has.mono_l : ∀ k, (∀ y0 y1 y2 y3 y4, LeO (impl_has.l0 k y0 y1 y2 y3 y4) (impl_has.l0 (k + 1) y0 y1 y2 y3 y4))
  | 0 => fun _ _ _ _ _ r h => by simp [impl_has.l0] at h
  | k + 1 => by
    have ih0 := impl_has.mono_l k
    · intro y0 y1 y2 y3 y4
      unfold impl_has.l0
      repeat' first
      | (with_reducible exact ih0 _ _ _ _ _)
      | (with_reducible exact impl_Lock_isCode.mono _ _ _ _)
      | (with_reducible exact LeO.refl _)
      | (with_reducible exact LeO.none _)
      | (with_reducible refine LeO.ite ?_ ?_)
      | (with_reducible refine LeO.bind ?_ (fun _ => ?_))
      | exact ih0 _ _ _ _ _
      | exact impl_Lock_isCode.mono _ _ _ _
      | exact LeO.none _
      | refine LeO.ite ?_ ?_
      | refine LeO.bind ?_ (fun _ => ?_)
theorem impl_has.mono : ∀ a0 a1 a2 k, LeO (impl_has.f k a0 a1 a2) (impl_has.f (k + 1) a0 a1 a2) := by
  intro a0 a1 a2 k
  have ih0 := impl_has.mono_l k
  unfold impl_has.f
  repeat' first
      | (with_reducible exact ih0 _ _ _ _ _)
      | (with_reducible exact impl_Lock_isCode.mono _ _ _ _)
      | (with_reducible exact LeO.refl _)
      | (with_reducible exact LeO.none _)
      | (with_reducible refine LeO.ite ?_ ?_)
      | (with_reducible refine LeO.bind ?_ (fun _ => ?_))
      | exact ih0 _ _ _ _ _
      | exact impl_Lock_isCode.mono _ _ _ _
      | exact LeO.none _
      | refine LeO.ite ?_ ?_
      | refine LeO.bind ?_ (fun _ => ?_)
set_option maxHeartbeats 8000000 in
set_option maxRecDepth 100000 in
theorem impl_has.calls (k : Nat) (a0_0 : Int) (a0_1 : Int) (A1 : Option Addr) (c1 : Nat) (l1 : List ByteArray) (r : Bool) (w : World) (hr1 : Kd.C Kd.string w A1 l1.length l1) (hc1 : l1.length ≤ c1) (h : impl_has.f k a0_0 a0_1 l1 = some r) :
    Calls Try.prog 30 #[.agg #[.int .i64 a0_0, .int .i64 a0_1], .slice A1 l1.length c1] w fun e w' => e = .returned (.bool r) ∧ Below w.heap.size w w' := by
  have hu26 := Try.underlying26
  have HR1 := Aside0.mk hr1
  have HC1 := Aside0.mk hc1
  clear hr1 hc1
  have HB := Aside0.mk (Below.refl w.heap.size w)
  have H : ((impl_IsLock.f a0_0 a0_1).bind fun t172 => (if t172 = true then (impl_has.l0 k l1 (l1.length : Int) 0 a0_0 a0_1) else (some false))) = some r := h
  clear h
  replace H := Option.bind_eq_some_iff.mp H
  obtain ⟨t172, A30, H⟩ := H
  try dsimp only at H
  have A3 := Aside0.mk A30
  clear A30
  by_cases c4 : t172 = true
  rotate_left
  · replace c4 := Bool.eq_false_iff.mpr c4
    subst c4
    rw [if_neg (show ¬ (false = true) by decide)] at H
    obtain rfl := Option.some.inj H
    go_enter Try.func30, Try.ntmps30
    go_wp2_with (first | ((with_reducible refine gate_dst (N := 2) rfl ?_); refine box_event ?hg (N := 2) ?hd (cs := #[.int .i64 a0_0, .int .i64 a0_1]) (t := 26) ?hr ?_; (case hd => rfl); (case hg => rfl); (case hr => first | (go_simp; done) | (go_simp; rfl)); intro gb171 hg w17 hbox hb; have n0_ := bsx hb HB; have n1_ := Aside0.mk (hbox); have n2_ := gwx hg HB; have n3_ := n2_; clear HB; have HB := n0_; have BK171 := n1_; have GW171 := n2_; have GE171 := n3_; clear n0_ n1_ n2_ n3_; clear hb hbox hg; have hcz18_0 := cz0 BK171; have hcz18_1 := cz1 BK171; have hfz18_0 := blk_frozen BK171.out 0; have hfz18_1 := blk_frozen BK171.out 1) | ((with_reducible refine gate_callee (f := 38) rfl ?_); refine goesL_ (some 8) rfl rfl Try.func38 (by kernel_rfl) rfl #[.agg #[.int .i64 a0_0, .int .i64 a0_1]] rfl (by (try simp only [m_1, m_2, m_3]); first | done | rfl | (simp only [m_4, m_5]; rfl)) ?_; (with_reducible refine (impl_IsLock.calls a0_0 a0_1 false _ A3.out).mono ?_); rintro e w19 ⟨rfl, hb⟩; refine ⟨_, rfl, ?_⟩; replace BK171 := bbx hb BK171; replace HB := bsx hb HB; skip; (try clear hb); (try clear hb2); (try clear hk); (try clear hi)))
    go_ret
    exact ⟨by first | rfl | (simp [errW_none, errW_some] <;> rfl) | (simp [*, errW_none, errW_some] <;> rfl), bB HB⟩

  subst c4
  rw [if_pos rfl] at H
  have H' := Aside0.mk H
  clear H
  go_enter Try.func30, Try.ntmps30
  go_wp2_with (first | ((with_reducible refine gate_dst (N := 2) rfl ?_); refine box_event ?hg (N := 2) ?hd (cs := #[.int .i64 a0_0, .int .i64 a0_1]) (t := 26) ?hr ?_; (case hd => rfl); (case hg => rfl); (case hr => first | (go_simp; done) | (go_simp; rfl)); intro gb171 hg w5 hbox hb; have n0_ := bsx hb HB; have n1_ := Aside0.mk (hbox); have n2_ := gwx hg HB; have n3_ := n2_; clear HB; have HB := n0_; have BK171 := n1_; have GW171 := n2_; have GE171 := n3_; clear n0_ n1_ n2_ n3_; clear hb hbox hg; have hcz6_0 := cz0 BK171; have hcz6_1 := cz1 BK171; have hfz6_0 := blk_frozen BK171.out 0; have hfz6_1 := blk_frozen BK171.out 1) | ((with_reducible refine gate_callee (f := 38) rfl ?_); refine goesL_ (some 8) rfl rfl Try.func38 (by kernel_rfl) rfl #[.agg #[.int .i64 a0_0, .int .i64 a0_1]] rfl (by (try simp only [m_1, m_2, m_3]); first | done | rfl | (simp only [m_4, m_5]; rfl)) ?_; (with_reducible refine (impl_IsLock.calls a0_0 a0_1 true _ A3.out).mono ?_); rintro e w7 ⟨rfl, hb⟩; refine ⟨_, rfl, ?_⟩; replace BK171 := bbx hb BK171; replace HB := bsx hb HB; skip; (try clear hb); (try clear hb2); (try clear hk); (try clear hi)))
  go_loopg [12] k (fun kq v12 w' => ∃ (x12_1 : Int), v12 = .int .i64 x12_1 ∧ Aside0 (impl_has.l0 kq l1 (l1.length : Int) x12_1 a0_0 a0_1 = some r) ∧ Aside0 (kq ≤ k) ∧ Aside0 (w'.heap[gb171]? = some (.cells #[.int .i64 a0_0, .int .i64 a0_1] 26 (0, 0))) ∧ Aside0 (Below w.heap.size w w'))
  case atStart => exact ⟨(0), (by first | rfl | (simp; done) | (simp [*]; done)), H', ⟨Nat.le_refl _⟩, ⟨bK BK171⟩, ⟨bB HB⟩⟩
  clear H'
  try clear c1
  try clear c4
  try clear hcz6_0
  try clear hcz6_1
  try clear hfz6_0
  try clear hfz6_1
  obtain ⟨x12_1, rfl, HA, HK1, BK171, HB⟩ := hrel
  rcases gk with _ | k1
  · exact absurd HA.out (by simp [impl_has.l0])
  have H := HA.out
  clear HA
  simp only [impl_has.l0] at H
  by_cases c8 : x12_1 < (l1.length : Int)
  rotate_left
  · rw [if_neg c8] at H
    have c8b0 : decide (x12_1 < (l1.length : Int)) = false := decide_eq_false c8
    clear c8
    obtain rfl := Option.some.inj H
    go_wp2
    go_ret
    exact ⟨by first | rfl | (simp [errW_none, errW_some] <;> rfl) | (simp [*, errW_none, errW_some] <;> rfl), bB HB⟩
  rw [if_pos c8] at H
  have c8b0 : decide (x12_1 < (l1.length : Int)) = true := decide_eq_true c8
  clear c8
  by_cases c9 : 0 ≤ x12_1
  rotate_left
  · rw [if_neg c9] at H
    exact absurd H (by simp)
  rw [if_pos c9] at H
  have c9b0 : decide (0 ≤ x12_1) = true := decide_eq_true c9
  clear c9
  by_cases c10 : x12_1 < (l1.length : Int)
  rotate_left
  · rw [if_neg c10] at H
    exact absurd H (by simp)
  rw [if_pos c10] at H
  have c10b0 : decide (x12_1 < (l1.length : Int)) = true := decide_eq_true c10
  clear c10
  replace H := Option.bind_eq_some_iff.mp H
  obtain ⟨t174, A110, H⟩ := H
  try dsimp only at H
  have A11 := Aside0.mk A110
  clear A110
  by_cases c12 : t174 = true
  rotate_left
  · replace c12 := Bool.eq_false_iff.mpr c12
    subst c12
    rw [if_neg (show ¬ (false = true) by decide)] at H
    obtain rfl := Option.some.inj H
    have p173 : 0 ≤ (x12_1 : Int) := of_decide_eq_true (by first | (with_reducible assumption) | assumption)
    have q173 : x12_1 < (l1.length : Int) := of_decide_eq_true (by first | (with_reducible assumption) | assumption)
    obtain ⟨ad173, e173, hx173_0⟩ := Kd.at_string HR1.out x12_1 p173 q173
    cases e173
    replace hx173_0 := (HB.out.cell (World.block_lt_of_cell? w _ hx173_0)).trans hx173_0
    replace p173 := eq_true p173
    replace q173 := eq_true q173
    have hcz15_0 := cz0 BK171
    have hcz15_1 := cz1 BK171
    have hfz15_0 := blk_frozen BK171.out 0
    have hfz15_1 := blk_frozen BK171.out 1
    go_wp2_with (first | ((with_reducible refine gate_callee (f := 53) rfl ?_); refine goesL_ (some 18) rfl rfl Try.func53 (by kernel_rfl) rfl #[.agg #[.int .i64 a0_0, .int .i64 a0_1], .string (rdOf ByteArray.empty l1 x12_1)] rfl (by (try simp only [m_1, m_2, m_3]); first | done | rfl | (simp only [m_4, m_5]; rfl)) ?_; (with_reducible refine (impl_Lock_isCode.calls k1 a0_0 a0_1 (rdOf ByteArray.empty l1 x12_1) false _ A11.out).mono ?_); rintro e w16 ⟨rfl, hb⟩; refine ⟨_, rfl, ?_⟩; replace BK171 := bbx hb BK171; replace HB := bsx hb HB; skip; (try clear hb); (try clear hb2); (try clear hk); (try clear hi)))
    go_ret
    exact ⟨by first | rfl | (simp [errW_none, errW_some] <;> rfl) | (simp [*, errW_none, errW_some] <;> rfl), bB HB⟩
  subst c12
  rw [if_pos rfl] at H
  have H' := Aside0.mk H
  clear H
  have p173 : 0 ≤ (x12_1 : Int) := of_decide_eq_true (by first | (with_reducible assumption) | assumption)
  have q173 : x12_1 < (l1.length : Int) := of_decide_eq_true (by first | (with_reducible assumption) | assumption)
  obtain ⟨ad173, e173, hx173_0⟩ := Kd.at_string HR1.out x12_1 p173 q173
  cases e173
  replace hx173_0 := (HB.out.cell (World.block_lt_of_cell? w _ hx173_0)).trans hx173_0
  replace p173 := eq_true p173
  replace q173 := eq_true q173
  have hcz13_0 := cz0 BK171
  have hcz13_1 := cz1 BK171
  have hfz13_0 := blk_frozen BK171.out 0
  have hfz13_1 := blk_frozen BK171.out 1
  go_wp2_with (first | ((with_reducible refine gate_callee (f := 53) rfl ?_); refine goesL_ (some 18) rfl rfl Try.func53 (by kernel_rfl) rfl #[.agg #[.int .i64 a0_0, .int .i64 a0_1], .string (rdOf ByteArray.empty l1 x12_1)] rfl (by (try simp only [m_1, m_2, m_3]); first | done | rfl | (simp only [m_4, m_5]; rfl)) ?_; (with_reducible refine (impl_Lock_isCode.calls k1 a0_0 a0_1 (rdOf ByteArray.empty l1 x12_1) true _ A11.out).mono ?_); rintro e w14 ⟨rfl, hb⟩; refine ⟨_, rfl, ?_⟩; replace BK171 := bbx hb BK171; replace HB := bsx hb HB; skip; (try clear hb); (try clear hb2); (try clear hk); (try clear hi)))
  go_roundg k1
  case measure => have := HK1.out; omega
  case rel => exact ⟨(wrap64 (x12_1 + 1)), (by first | rfl | (simp; done) | (simp [*]; done)), H', ⟨by have := HK1.out; omega⟩, ⟨bK BK171⟩, ⟨bB HB⟩⟩
/-! ### strings_Join: function 54 (a text of our own) -/
def strings_Join.f (l0 : List ByteArray) (a1 : ByteArray) : Option (ByteArray) := if l0.length ≤ 1000000 then (if (Lib.join (l0.map (·.data.toList)) a1.data.toList).length ≤ 140737488355328 then some ⟨(Lib.join (l0.map (·.data.toList)) a1.data.toList).toArray⟩ else none) else none
theorem strings_Join.calls (A0 : Option Addr) (c0 : Nat) (l0 : List ByteArray) (a1 : ByteArray) (r : ByteArray) (w : World) (hr0 : Kd.C Kd.string w A0 l0.length l0) (hc0 : l0.length ≤ c0) (h : strings_Join.f l0 a1 = some r) :
    Calls Try.prog 54 #[.slice A0 l0.length c0, .string a1] w fun e w' => e = .returned (.string r) ∧ Below w.heap.size w w' := by
  unfold strings_Join.f at h
  by_cases h1 : l0.length ≤ 1000000
  · rw [if_pos h1] at h
    by_cases h2 : (Lib.join (l0.map (·.data.toList)) a1.data.toList).length ≤ 140737488355328
    · rw [if_pos h2] at h
      obtain rfl := Option.some.inj h
      by_cases h3 : 0 < l0.length
      · obtain ⟨ad, e, hx⟩ := Kd.at_string hr0 0 (by omega) (by omega)
        obtain ⟨bk, o, sp⟩ := ad
        have hsp : sp = none := by
          have hx' : w.cell? ⟨bk, o, sp⟩ = some (.string (rdOf ByteArray.empty l0 0)) := hx
          unfold World.cell? at hx'
          cases sp with
          | none => rfl
          | some q =>
            exfalso
            simp only [Option.isSome_some, if_true] at hx'
            split at hx' <;> exact absurd hx' (by simp)
        subst hsp
        subst e
        refine (Try.strings_Join bk o c0 l0 a1 w ?_ ?_ (by omega) hc0 h2).mono fun e w' ⟨he, hw⟩ => ⟨he, hw⟩
        · intro j x hj
          have hl : j < l0.length := by
            rcases Nat.lt_or_ge j l0.length with q | q
            · exact q
            · rw [List.getElem?_eq_none q] at hj; cases hj
          obtain ⟨ad, e, hc⟩ := Kd.at_string hr0 (j : Int) (by omega) (by omega)
          obtain rfl := Option.some.inj e
          have e2 : rdOf ByteArray.empty l0 (j : Int) = x := by
            unfold rdOf
            rw [Int.toNat_natCast, List.getD_eq_getElem?_getD, hj]; rfl
          rw [e2, Int.toNat_natCast] at hc
          rw [← hc]
          congr 1
          unfold Addr.add
          split
          · subst_vars; rfl
          · rfl
        · exact World.block_lt_of_cell? w ⟨bk, o, none⟩ hx
      · have h4 : l0 = [] := List.length_eq_zero_iff.mp (by omega)
        subst h4
        refine (Try.strings_Join_none A0 c0 a1 w).mono fun e w' ⟨he, hw⟩ => ⟨he, ?_⟩
        rw [hw]; exact Below.refl _ _
    · rw [if_neg h2] at h; exact absurd h (by simp)
  · rw [if_neg h1] at h; exact absurd h (by simp)


/-! ### impl_text: function 37 -/
def impl_text.l0 : Nat → List Int → List Int → Int → Int → Option (ByteArray)
  | 0, _, _, _, _ => none
  | k + 1, x3, x7, x8, x9 => if x9 < x8 then (if 0 ≤ x9 then (if x9 < (x7.length : Int) then (if x3.length < 140737488355328 then (impl_text.l0 k (x3 ++ [(wrap64 (48 + (rd x7 x9))) % 256]) x7 x8 (wrap64 (x9 + 1))) else (none)) else (none)) else (none)) else (some (strOfNums x3))
def impl_text.f (k : Nat) (l0 : List Int) : Option (ByteArray) := impl_text.l0 k (([] : List Int)) l0 (l0.length : Int) 0
theorem impl_text.mono_l : ∀ k, (∀ y0 y1 y2 y3, LeO (impl_text.l0 k y0 y1 y2 y3) (impl_text.l0 (k + 1) y0 y1 y2 y3))
  | 0 => fun _ _ _ _ r h => by simp [impl_text.l0] at h
  | k + 1 => by
    have ih0 := impl_text.mono_l k
    · intro y0 y1 y2 y3
      unfold impl_text.l0
      repeat' first
      | (with_reducible exact ih0 _ _ _ _)
      | (with_reducible exact LeO.refl _)
      | (with_reducible exact LeO.none _)
      | (with_reducible refine LeO.ite ?_ ?_)
      | (with_reducible refine LeO.bind ?_ (fun _ => ?_))
      | exact ih0 _ _ _ _
      | exact LeO.none _
      | refine LeO.ite ?_ ?_
      | refine LeO.bind ?_ (fun _ => ?_)
theorem impl_text.mono : ∀ a0 k, LeO (impl_text.f k a0) (impl_text.f (k + 1) a0) := by
  intro a0 k
  have ih0 := impl_text.mono_l k
  unfold impl_text.f
  repeat' first
      | (with_reducible exact ih0 _ _ _ _)
      | (with_reducible exact LeO.refl _)
      | (with_reducible exact LeO.none _)
      | (with_reducible refine LeO.ite ?_ ?_)
      | (with_reducible refine LeO.bind ?_ (fun _ => ?_))
      | exact ih0 _ _ _ _
      | exact LeO.none _
      | refine LeO.ite ?_ ?_
      | refine LeO.bind ?_ (fun _ => ?_)
set_option maxHeartbeats 8000000 in
set_option maxRecDepth 100000 in
theorem impl_text.calls (k : Nat) (A0 : Option Addr) (c0 : Nat) (l0 : List Int) (r : ByteArray) (w : World) (hr0 : Kd.C (Kd.int .i64) w A0 l0.length l0) (hc0 : l0.length ≤ c0) (h : impl_text.f k l0 = some r) :
    Calls Try.prog 37 #[.slice A0 l0.length c0] w fun e w' => e = .returned (.string r) ∧ Below w.heap.size w w' := by
  have HR0 := Aside0.mk hr0
  have HC0 := Aside0.mk hc0
  clear hr0 hc0
  have HB := Aside0.mk (Below.refl w.heap.size w)
  have H : (impl_text.l0 k (([] : List Int)) l0 (l0.length : Int) 0) = some r := h
  clear h
  obtain ⟨y414, hy414⟩ : ∃ y_ : List Int, y_ = (([] : List Int)) := ⟨_, rfl⟩
  replace H : (impl_text.l0 k y414 l0 (l0.length : Int) 0) = some r := by first | (rw [hy414]; with_reducible exact H) | (have H2_ := (Option.bind_some _ _).symm.trans H; rw [hy414]; with_reducible exact H2_) | (have H2_ := (Option.bind_some _ _).symm.trans H; with_reducible exact H2_) | with_reducible exact H | (rw [hy414]; exact H) | exact H
  have Ny414 := Aside0.mk hy414
  clear hy414
  have H' := Aside0.mk H
  clear H
  go_enter Try.func37, Try.ntmps37
  go_wp2_with (first | ((with_reducible refine gate_dst (N := 6) rfl ?_); refine Kd.R_lit (Kd.int .u8) _ 5 ?hg (N := 6) ?hd (xs := ([] : List Int)) (inner := []) (ok := fun _ => True) (okp := fun _ => True) ?hr ?hp (fun _ hk => hk) trivial (Below.refl _ _) (Nat.le_refl _) (by simp) ?_; (case hd => rfl); (case hg => rfl); (case hr => first | (go_simp; done) | (go_simp; rfl)); (case hp => exact (Reps.none _ _)); intro v415 w2 ho3 hb hg_ hnew_; clear hg_ hnew_; (first | rw [← Ny414.out] at ho3 | (simp only [Int.reduceToNat] at ho3; rw [← Ny414.out] at ho3)); have n0_ := Aside0.mk (Kd.R_lower ho3 (below_size (bB HB))); have n1_ := bsx hb HB; clear HB; have HO416 := n0_; have HB := n1_; clear n0_ n1_; clear hb ho3))
  go_loopg [3, 9] k (fun kq v3 v9 w' => ∃ (x3_1 : List Int) (x9_1 : Int), v9 = .int .i64 x9_1 ∧ Aside0 (impl_text.l0 kq x3_1 l0 (l0.length : Int) x9_1 = some r) ∧ Aside0 (kq ≤ k) ∧ Aside0 (Kd.R (Kd.int .u8) 5 w' w.heap.size (fun _ => True) v3 x3_1) ∧ Aside0 (Below w.heap.size w w'))
  case atStart => exact ⟨(y414), (0), (by first | rfl | (simp; done) | (simp [*]; done)), H', ⟨Nat.le_refl _⟩, ⟨by (with_reducible repeat (first | apply r_a | apply r_d | apply r_e)); exact HO416.out⟩, ⟨bB HB⟩⟩
  clear H'
  obtain ⟨x3_1, x9_1, rfl, HA, HK1, HO_3, HB⟩ := hrel
  rcases gk with _ | k1
  · exact absurd HA.out (by simp [impl_text.l0])
  have H := HA.out
  clear HA
  simp only [impl_text.l0] at H
  by_cases c4 : x9_1 < (l0.length : Int)
  rotate_left
  · rw [if_neg c4] at H
    have c4b0 : decide (x9_1 < (l0.length : Int)) = false := decide_eq_false c4
    clear c4
    obtain rfl := Option.some.inj H
    have hcv9 := own_string (P := Try.prog) Try.underlying68 Try.underlying5 Try.underlying9 (Kd.own_of_R HO_3.out)
    go_wp2
    go_ret
    exact ⟨by first | rfl | (simp [errW_none, errW_some] <;> rfl) | (simp [*, errW_none, errW_some] <;> rfl), bB HB⟩

  rw [if_pos c4] at H
  have c4b0 : decide (x9_1 < (l0.length : Int)) = true := decide_eq_true c4
  clear c4
  by_cases c5 : 0 ≤ x9_1
  rotate_left
  · rw [if_neg c5] at H
    exact absurd H (by simp)
  rw [if_pos c5] at H
  have c5b0 : decide (0 ≤ x9_1) = true := decide_eq_true c5
  clear c5
  by_cases c6 : x9_1 < (l0.length : Int)
  rotate_left
  · rw [if_neg c6] at H
    exact absurd H (by simp)
  rw [if_pos c6] at H
  have c6b0 : decide (x9_1 < (l0.length : Int)) = true := decide_eq_true c6
  clear c6
  by_cases c7 : x3_1.length < 140737488355328
  rotate_left
  · rw [if_neg c7] at H
    exact absurd H (by simp)
  rw [if_pos c7] at H
  have LMc7 := Aside0.mk c7
  clear c7
  obtain ⟨y418, hy418⟩ : ∃ y_ : List Int, y_ = (x3_1 ++ [(wrap64 (48 + (rd l0 x9_1))) % 256]) := ⟨_, rfl⟩
  replace H : (impl_text.l0 k1 y418 l0 (l0.length : Int) (wrap64 (x9_1 + 1))) = some r := by first | (rw [hy418]; with_reducible exact H) | (have H2_ := (Option.bind_some _ _).symm.trans H; rw [hy418]; with_reducible exact H2_) | (have H2_ := (Option.bind_some _ _).symm.trans H; with_reducible exact H2_) | with_reducible exact H | (rw [hy418]; exact H) | exact H
  have Ny418 := Aside0.mk hy418
  clear hy418
  have H' := Aside0.mk H
  clear H
  have p417 : 0 ≤ (x9_1 : Int) := of_decide_eq_true (by first | (with_reducible assumption) | assumption)
  have q417 : x9_1 < (l0.length : Int) := of_decide_eq_true (by first | (with_reducible assumption) | assumption)
  obtain ⟨ad417, e417, hx417_0⟩ := Kd.at_int HR0.out x9_1 p417 q417
  cases e417
  replace hx417_0 := (HB.out.cell (World.block_lt_of_cell? w _ hx417_0)).trans hx417_0
  replace p417 := eq_true p417
  replace q417 := eq_true q417
  go_wp2_with (first | ((with_reducible refine gate_builtin (b := .append) (xs := #[.tmp 13, .tmp 17]) rfl ?_); at_builtin; refine Kd.R_append (Kd.int .u8) (w0 := w) w.heap.size rfl (.tmp 13) (.tmp 17) 68 5 (.int .u8 0) 1 rfl Try.underlying68 info5 rfl (by decide) (by omega) u3 x3_1 ((wrap64 (48 + (rd l0 x9_1))) % 256) [.int .u8 ((wrap64 (48 + (rd l0 x9_1))) % 256)] (fun _ => True) (fun _ => False) rfl rfl ?aP (fun _ hk => hk.elim) ?aF ?aO ?aB ?aS ?aL ?_; (case aP => exact rfl); (case aB => exact (bB HB)); (case aF => exact (fun _ _ => trivial)); (case aO => exact (by (with_reducible repeat (first | apply r_a | apply r_d | apply r_e)); exact HO_3.out)); (case aS => exact (below_size (bB HB))); (case aL => have := LMc7.out; omega); intro v419 w8 ho hb hg hat; rw [← Ny418.out] at ho; have n0_ := Aside0.mk (hb); have n1_ := Aside0.mk (ho); clear HB; clear HO_3; have HB := n0_; have HO420 := n1_; clear n0_ n1_; clear ho hb hg hat))
  go_roundg k1
  case measure => have := HK1.out; omega
  case rel => exact ⟨(y418), (wrap64 (x9_1 + 1)), (by first | rfl | (simp; done) | (simp [*]; done)), H', ⟨by have := HK1.out; omega⟩, ⟨by (with_reducible repeat (first | apply r_a | apply r_d | apply r_e)); exact HO420.out⟩, ⟨bB HB⟩⟩
/-! ### impl_Lock_least: function 55 (a text of our own) -/
mutual
/-- The closure: the least words that begin with a word are put behind those that are there. -/
def impl_Lock_least.put : Nat → Int → Int → List ByteArray → List Int → Int → Option (List ByteArray)
  | 0, _, _, _, _, _ => none
  | k + 1, W, D, out, word, p => if (word.length : Int) = W then (if p = 0 then none else (if Int.tmod W p = 0 then (if 0 ≤ p then (if p ≤ (word.length : Int) then ((impl_text.f k (word.take p.toNat)).bind fun t => (if out.length < 8796093022000 then some (out ++ [t]) else none)) else none) else none) else some out)) else (if 0 < (word.length : Int) then (if 0 ≤ wrap64 ((word.length : Int) - p) then (if wrap64 ((word.length : Int) - p) < (word.length : Int) then impl_Lock_least.rep k W D out word p (rd word (wrap64 ((word.length : Int) - p))) (rd word (wrap64 ((word.length : Int) - p))) else none) else none) else impl_Lock_least.rep k W D out word p 0 0)
def impl_Lock_least.rep : Nat → Int → Int → List ByteArray → List Int → Int → Int → Int → Option (List ByteArray)
  | 0, _, _, _, _, _, _, _ => none
  | k + 1, W, D, out, word, p, first, d => if d < D then (if word.length < 17592186044000 then ((impl_Lock_least.put k W D out (word ++ [d]) (if (word.length : Int) = 0 then wrap64 ((word.length : Int) + 1) else if d > first then wrap64 ((word.length : Int) + 1) else p)).bind fun o => impl_Lock_least.rep k W D o word p first (wrap64 (d + 1))) else none) else some out
end
def impl_Lock_least.f (k : Nat) (a0_0 : Int) (a0_1 : Int) (a1 : Int) : Option (List ByteArray) := impl_Lock_least.put k a1 a0_1 [] [] 1
theorem impl_Lock_least.mono_l : ∀ k, (∀ W D out word p, LeO (impl_Lock_least.put k W D out word p) (impl_Lock_least.put (k + 1) W D out word p)) ∧ (∀ W D out word p first d, LeO (impl_Lock_least.rep k W D out word p first d) (impl_Lock_least.rep (k + 1) W D out word p first d))
  | 0 => ⟨fun _ _ _ _ _ r h => by simp [impl_Lock_least.put] at h, fun _ _ _ _ _ _ _ r h => by simp [impl_Lock_least.rep] at h⟩
  | k + 1 => by
    obtain ⟨ih0, ih1⟩ := impl_Lock_least.mono_l k
    constructor
    · intro W D out word p
      unfold impl_Lock_least.put
      repeat' first
      | (with_reducible exact ih1 _ _ _ _ _ _ _)
      | (with_reducible exact impl_text.mono _ _)
      | (with_reducible exact LeO.refl _)
      | (with_reducible exact LeO.none _)
      | (with_reducible refine LeO.ite ?_ ?_)
      | (with_reducible refine LeO.bind ?_ (fun _ => ?_))
    · intro W D out word p first d
      unfold impl_Lock_least.rep
      repeat' first
      | (with_reducible exact ih0 _ _ _ _ _)
      | (with_reducible exact ih1 _ _ _ _ _ _ _)
      | (with_reducible exact LeO.refl _)
      | (with_reducible exact LeO.none _)
      | (with_reducible refine LeO.ite ?_ ?_)
      | (with_reducible refine LeO.bind ?_ (fun _ => ?_))
theorem impl_Lock_least.mono : ∀ a0 a1 a2 k, LeO (impl_Lock_least.f k a0 a1 a2) (impl_Lock_least.f (k + 1) a0 a1 a2) := fun _ _ _ k => (impl_Lock_least.mono_l k).1 _ _ _ _ _
/-- A call of a function value that lies in a slot. -/
theorem impl_Lock_least.goesC {P : Program} {ops : Array Oper} {Q : Exit → Act → World → Prop} {oi : Oper} {N : Option Tmp} {a : Act} {w : World} {K : Act → World → Prop} {f : FuncId} {fn : Func} {as_ : Array Operand} {ts : Array TypeId} (t : Tmp) (caps args : Array Value) (hf : P.funcs[f]? = some fn) (hname : (fn.name == "runtime.NumGoroutine") = false) (hb : fn.body.isSome = true)
    (hw : Region.wanted oi (yielded ops a.tmps) = true) (hN : oi.dst = N) (hop : oi.op = .call { callee := .value (.tmp t), args := as_, argTypes := ts }) (hcal : a.eval (.tmp t) = .func (.func f) #[] caps) (hargs : as_.map a.eval = args)
    (h : Calls P f (args ++ caps) w fun e w' => ∃ v, e = .returned v ∧ K (a.put N v) w') : if Region.wanted oi (yielded ops a.tmps) = true then Oper.wp P oi a w K Q else K (a.put N undef) w := by
  refine call_ f (args ++ caps) hw hN ?_ h
  have he := enters_ hf hname hb (args ++ caps) w
  unfold execOp
  simp [hop, resolve, Deferred.ofValue, invoke, hcal, hargs, he]
theorem impl_Lock_least.goesLC {P : Program} {ops : Array Oper} {Q : Exit → Act → World → Prop} {rest : List Oper} {oi : Oper} {a : Act} {w : World} (N : Option Tmp) (hd : oi.dst = N) (hg : oi.guard = none) {f : FuncId} {fn : Func} {as_ : Array Operand} {ts : Array TypeId} (t : Tmp) (caps args : Array Value) (hf : P.funcs[f]? = some fn) (hname : (fn.name == "runtime.NumGoroutine") = false) (hb : fn.body.isSome = true)
    (hop : oi.op = .call { callee := .value (.tmp t), args := as_, argTypes := ts }) (hcal : a.eval (.tmp t) = .func (.func f) #[] caps) (hargs : as_.map a.eval = args)
    (h : Calls P f (args ++ caps) w fun e w' => ∃ v, e = .returned v ∧ wpList P ops Q rest (a.put N v) w') : wpList P ops Q (oi :: rest) a w := by
  refine wpList_plain hg fun K hK => ?_
  have he := enters_ hf hname hb (args ++ caps) w
  have hrun : (execOp a.eval oi).run P w = .ok (.enter f (args ++ caps)) w := by
    unfold execOp
    simp [hop, resolve, Deferred.ofValue, invoke, hcal, hargs, he]
  unfold Oper.wp
  rw [hrun, Oper.upon_enter]
  refine h.mono fun e w'' hh => ?_
  obtain ⟨v, rfl, hk⟩ := hh
  subst hd
  exact hK _ _ hk
/-- A row of numbers stays where only the words' list is written. -/
theorem impl_Lock_least.keepW {w w1 : World} {g : Nat} {v vo : Value} {B B' : Nat} {ok ok' : Nat → Prop} {xs : List Int} {out : List ByteArray} {cs : Array Value} (HW : Kd.R (Kd.int .i64) 3 w B ok v xs) (hg : w.heap[g]? = some (.cells cs 31 (0, 0))) (HO : Kd.R Kd.string 9 w B' ok' vo out) (hk : KeepBut w w1 g vo.ownBlock) : Kd.R (Kd.int .i64) 3 w1 B ok v xs := by
  refine Kd.R_mono (Kd.R_move (Kd.R_bound HW) (fun k hk' => ?_)) (fun _ h => h.1)
  obtain ⟨_, _, hlt, q, hq, cells, hc⟩ := hk'
  obtain rfl : q = 3 := by simpa [Kd.int, Kd.scalar] using hq
  refine hk.2 k hlt ?_ ?_
  · rintro rfl
    rw [hc] at hg
    injection hg with hg
    injection hg with _ hg
    exact absurd hg (by decide)
  · intro e
    exact Kd.R_ne HO hc (by decide) e
set_option maxHeartbeats 16000000 in
set_option maxRecDepth 100000 in
theorem impl_Lock_least.put_calls (gw go gl gp : Nat) (X W D : Int) (w0 : World) (hgo : w0.heap.size ≤ go) : ∀ (k : Nat) (out : List ByteArray) (word : List Int) (p : Int) (r : List ByteArray) (w : World) (vo : Value) (Aw : Option Addr) (cw : Nat)
    (_hB : Below w0.heap.size w0 w) (_hw : w.heap[gw]? = some (.cells #[.int .i64 W] 3 (0, 0))) (_ho : w.heap[go]? = some (.cells #[vo] 31 (0, 0))) (_hl : w.heap[gl]? = some (.cells #[.int .i64 X, .int .i64 D] 26 (0, 0)))
    (_hp : w.heap[gp]? = some (.cells #[(.func (.func 67) #[] #[.pointer (some ⟨gw, 0, none⟩), .pointer (some ⟨go, 0, none⟩), .pointer (some ⟨gl, 0, none⟩), .pointer (some ⟨gp, 0, none⟩)])] 77 (0, 0))) (_HO : Kd.R Kd.string 9 w w0.heap.size (fun _ => True) vo out) (_HW : Kd.R (Kd.int .i64) 3 w w0.heap.size (fun _ => True) (.slice Aw word.length cw) word) (_h : impl_Lock_least.put k W D out word p = some r),
    Calls Try.prog 67 (#[.slice Aw word.length cw, .int .i64 p] ++ #[.pointer (some ⟨gw, 0, none⟩), .pointer (some ⟨go, 0, none⟩), .pointer (some ⟨gl, 0, none⟩), .pointer (some ⟨gp, 0, none⟩)]) w fun e w' => e = .returned (.tuple #[]) ∧ ∃ vo' : Value, w'.heap[go]? = some (.cells #[vo'] 31 (0, 0)) ∧ Kd.R Kd.string 9 w' w0.heap.size (fun _ => True) vo' r ∧ Below w0.heap.size w0 w' ∧ KeepBut w w' go vo.ownBlock ∧ (vo'.ownBlock = vo.ownBlock ∨ ∃ b, vo'.ownBlock = some b ∧ w.heap.size ≤ b) := by
  intro k
  induction k using Nat.strongRecOn with
  | _ k ih =>
  intro out word p r w vo Aw cw hB hw_ ho_ hl_ hp_ HO HW h
  cases k with
  | zero => exact absurd h (by simp [impl_Lock_least.put])
  | succ k =>
  have hsz : w0.heap.size ≤ w.heap.size := hB.size
  replace HB := Aside0.mk hB
  replace BKw := Aside0.mk hw_
  replace BKo := Aside0.mk ho_
  replace BKl := Aside0.mk hl_
  replace BKp := Aside0.mk hp_
  replace HO := Aside0.mk HO
  replace HW := Aside0.mk HW
  clear hB ho_ hp_
  have hzw : w.cell? ⟨gw, 0, none⟩ = some (.int .i64 W) := (blk_cell hw_ 0).trans rfl
  clear hw_
  simp only [impl_Lock_least.put] at h
  by_cases c0 : (word.length : Int) = W
  · rw [if_pos c0] at h
    have c0b : ((word.length : Int) == W) = true := beq_iff_eq.mpr c0
    by_cases c1 : p = 0
    · rw [if_pos c1] at h; exact absurd h (by simp)
    rw [if_neg c1] at h
    have c1b0 : (p == 0) = false := beq_eq_false_iff_ne.mpr c1
    have c1b1 : (p != 0) = true := bne_iff_ne.mpr c1
    by_cases c2 : Int.tmod W p = 0
    · rw [if_pos c2] at h
      have c2b : (Int.tmod W p == 0) = true := beq_iff_eq.mpr c2
      by_cases c3 : 0 ≤ p
      · rw [if_pos c3] at h
        by_cases c4 : p ≤ (word.length : Int)
        · rw [if_pos c4] at h
          obtain ⟨t, ht, h⟩ := Option.bind_eq_some_iff.mp h
          by_cases c5 : out.length < 8796093022000
          · rw [if_pos c5] at h
            have HR := Aside0.mk (Option.some.inj h)
            clear h
            have LM := Aside0.mk c5
            obtain ⟨yw, hyw⟩ : ∃ y_ : List Int, y_ = word.take p.toNat := ⟨_, rfl⟩
            rw [← hyw] at ht
            have HT := Aside0.mk ht
            have hpl : p.toNat ≤ word.length := by omega
            have hlen : yw.length = p.toNat := by rw [hyw, List.length_take]; omega
            obtain ⟨i0, hi0, _, hsz0, _⟩ := info_parts info3
            have hcut := cut_to (P := Try.prog) 50 3 .i64 Try.underlying50 hi0 Aw word.length cw p c3 c4 (Kd.R_reads' HW.out).2.1
            rw [← hlen] at hcut
            clear ht c5 c0 c2 hi0 hsz0
            go_enter Try.func67, Try.ntmps67
            go_wp2
            refine start_ (n := 8) (S := fun w' => w'.cell? ⟨go, 0, none⟩ = some vo) (ds := [7]) #[false, false, false, false, false, false, false, false] (by kernel_rfl) rfl rfl (((blk_cell BKo.out 0).trans rfl)) (fun hHeld => ?_)
            have HBr := Aside0.mk (below_drew1 (Below.refl w.heap.size w))
            replace BKo : Aside0 (w.drew.heap[go]? = some (.cells #[vo] 31 (0, 0))) := ⟨BKo.out⟩
            replace HO := Aside0.mk (Kd.R_drew HO.out)
            replace HW := Aside0.mk (Kd.R_drew HW.out)
            generalize w.drew = wd at HBr BKo HO HW hHeld ⊢
            refine pure_ (i := 1) (N := some 20) (v := ?_) (a' := ?_) #[false, true, false, false, false, false, false, false] rfl rfl (by kernel_rfl) (fun _ _ _ h => h) (Or.inl ⟨by rfl, ?_⟩) ?_ ?_
            rotate_left
            · intro w'
              go_simp
              with_reducible rfl
            rotate_left
            · simp only [Act.put, List.setIfInBounds_toArray, List.set_cons_zero, List.set_cons_succ, i64_w, i32_w]
              rfl
            refine pure_ (i := 2) (N := some 21) (v := ?_) (a' := ?_) #[false, true, true, false, false, false, false, false] rfl rfl (by kernel_rfl) (fun _ _ _ h => h) (Or.inl ⟨by rfl, ?_⟩) ?_ ?_
            rotate_left
            · intro w'
              go_simp
              with_reducible rfl
            rotate_left
            · simp only [Act.put, List.setIfInBounds_toArray, List.set_cons_zero, List.set_cons_succ, i64_w, i32_w]
              rfl
            refine pure_ (i := 3) (N := some 22) (v := ?_) (a' := ?_) #[false, true, true, true, false, false, false, false] rfl rfl (by kernel_rfl) (fun _ _ _ h => h) (Or.inl ⟨by rfl, ?_⟩) ?_ ?_
            rotate_left
            · intro w'
              go_simp
              with_reducible rfl
            rotate_left
            · simp only [Act.put, List.setIfInBounds_toArray, List.set_cons_zero, List.set_cons_succ, i64_w, i32_w]
              rfl
            refine take_ (i := 0) (N := some 19) (v := ?_) (a' := ?_) #[true, true, true, true, false, false, false, false] rfl rfl (by kernel_rfl) (fun _ _ _ h => h) (Or.inl ⟨by rfl, ?_⟩) hHeld ?_ ?_
            rotate_left
            · intro w' s0
              go_simp
              with_reducible rfl
            rotate_left
            · simp only [Act.put, List.setIfInBounds_toArray, List.set_cons_zero, List.set_cons_succ, i64_w, i32_w]
              rfl
            refine one_ (i := 4) (N := some 23) #[true, true, true, true, true, false, false, false] rfl rfl (by kernel_rfl) (by decide) (fun K hK => ?_)
            refine goes_ Try.func37 (by kernel_rfl) rfl #[.slice Aw yw.length cw] (by rfl) rfl rfl (by (try simp only [List.map_toArray, List.map_cons, List.map_nil]); first | done | rfl | (rw [hlen]; rfl)) ?_
            with_reducible refine (impl_text.calls k Aw cw yw t _ ?side1 ?side2 HT.out).mono ?_
            (case side1 => rw [hyw]; exact Kd.C_take (Kd.R_reads' HW.out).2.2 hpl)
            (case side2 => have := (Kd.R_reads' HW.out).2.1; omega)
            rintro e w3 ⟨rfl, hb⟩
            refine ⟨_, rfl, ?_⟩
            replace BKo := Aside0.mk (blk_below BKo.out hb)
            replace HO := Aside0.mk (Kd.R_below HO.out hb)
            replace HBr := Aside0.mk (below_step HBr.out hb)
            clear hb
            refine hK.out _ _ (((blk_cell BKo.out 0).trans rfl)) (fun hHeld => ?_)
            clear hK K
            refine norm_ (a' := ?_) ?_ ?_
            rotate_left
            · show Act.put _ (some 23) _ = _
              simp only [Act.put, List.setIfInBounds_toArray, List.set_cons_zero, List.set_cons_succ, i64_w, i32_w]
              rfl
            refine one_ (i := 5) (N := some 24) #[true, true, true, true, true, true, false, false] rfl rfl (by kernel_rfl) (by decide) (fun K hK => ?_)
            refine Kd.R_lit_step Kd.string _ 9 ?hg (N := 24) ?hd (xs := ([t] : List ByteArray)) (inner := [.string t]) (ok := fun _ => True) (okp := fun _ => True) ?hr ?hp (fun _ hk => hk) trivial (Below.refl _ _) (Nat.le_refl _) (by simp) ?_; (case hd => rfl); (case hg => rfl); (case hr => first | (go_simp; done) | (go_simp; rfl)); (case hp => exact (Reps.one (show Kd.M Kd.string _ _ _ t [.string t] from rfl) (Reps.none _ _)))
            intro v4 w4 ho4 hb hg_ hnew_
            clear hg_ hnew_
            have HL := Aside0.mk (Kd.R_lower (Kd.R_new' ho4 (Kd.R_lt HO.out)) (Nat.le_trans hsz HBr.out.size))
            replace HO := Aside0.mk (Kd.R_elder' HO.out (Kd.R_base ho4) hb)
            replace BKo := Aside0.mk (blk_below BKo.out hb)
            replace HBr := Aside0.mk (below_step HBr.out hb)
            clear hb ho4
            obtain ⟨A4, c4, e4⟩ := Kd.R_slice HL.out
            subst e4
            refine hK.out _ _ (((blk_cell BKo.out 0).trans rfl)) (fun hHeld => ?_)
            clear hK K
            refine norm_ (a' := ?_) ?_ ?_
            rotate_left
            · show Act.put _ (some 24) _ = _
              simp only [Act.put, List.setIfInBounds_toArray, List.set_cons_zero, List.set_cons_succ, i64_w, i32_w]
              rfl
            refine one_ (i := 6) (N := some 25) #[true, true, true, true, true, true, true, false] rfl rfl (by kernel_rfl) (by decide) (fun K hK => ?_)
            refine Kd.R_append_rows_step Kd.string (w0 := w0) w0.heap.size (by rfl) (.tmp 19) (.tmp 24) 31 9 (.string ⟨#[]⟩) 16 rfl Try.underlying31 info9 rfl (by decide) (by omega) vo out [t] _ _ _ (fun k_ => some k_ ≠ (.slice A4 [t].length c4 : Value).ownBlock) (fun _ => False) rfl rfl ?aO ?aR (fun _ _ h => h) (fun _ h => h.elim) ?aF ?aB ?aS ?aL ?_
            (case aR => exact (Kd.R_reads' HL.out).2.2)
            (case aB => exact below_then HB.out hsz HBr.out)
            (case aF => exact (fun k_ hk => Kd.fresh' (Kd.R_lt HL.out) k_ hk))
            (case aO => exact Kd.R_mono HO.out (fun _ hk => hk.2))
            (case aS => exact Nat.le_trans hsz HBr.out.size)
            (case aL => have := LM.out; simp only [List.length_cons, List.length_nil]; omega)
            intro v5 w5 ho5 hb5 hg5 hat5
            rw [HR.out] at ho5
            obtain ⟨A5, c5_, e5_⟩ := Kd.R_slice ho5
            subst e5_
            replace BKo := Aside0.mk (blk_grown BKo.out hg5 (Kd.R_ne HO.out BKo.out (by decide)))
            refine hK.out _ _ (((blk_cell BKo.out 0).trans rfl)) (fun hHeld => ?_)
            clear hK K
            refine norm_ (a' := ?_) ?_ ?_
            rotate_left
            · show Act.put _ (some 25) _ = _
              simp only [Act.put, List.setIfInBounds_toArray, List.set_cons_zero, List.set_cons_succ, i64_w, i32_w]
              rfl
            refine last_ (i := 7) (N := none) #[true, true, true, true, true, true, true, true] rfl rfl (by kernel_rfl) (by decide) (fun K hK => ?_)
            refine skip_ (w1 := ?_) (by rfl) rfl ?_ ?_
            rotate_left
            · have hc5 : w5.cell? ⟨go, 0, none⟩ = some vo := (blk_cell BKo.out 0).trans rfl
              have hf5 := blk_frozen BKo.out 0
              go_simp
              rfl
            refine hK.out _ _ ?_
            clear hK K
            refine done_ (by kernel_rfl) ?_
            try go_wp2
            (try simp only [Exit.inBlock, Exit.then]); (first | refine bodyPost_ret (results_none rfl _ _ _) rfl ?_ | refine bodyPost_end (results_none rfl _ _ _) rfl ?_)
            refine ⟨rfl, _, blk_set BKo.out 0 _, ?_, ?_, ?_, ?_⟩
            · exact Kd.R_mono (Kd.R_set ho5 BKo.out (by decide) 0 _) (fun _ _ => trivial)
            · exact hb5.setCell hgo _
            · exact ((KeepBut.of_below HBr.out go _).trans (KeepBut.of_grown hg5 go) (Or.inl rfl)).set_ 0 _
            · rcases hat5 with e5 | ⟨b, e5, hb_⟩
              · exact Or.inl e5
              · exact Or.inr ⟨b, e5, Nat.le_trans HBr.out.size hb_⟩
          · rw [if_neg c5] at h; exact absurd h (by simp)
        · rw [if_neg c4] at h; exact absurd h (by simp)
      · rw [if_neg c3] at h; exact absurd h (by simp)
    · rw [if_neg c2] at h
      have c2b : (Int.tmod W p == 0) = false := beq_eq_false_iff_ne.mpr c2
      obtain rfl := Option.some.inj h
      clear c0 c2
      go_enter Try.func67, Try.ntmps67
      go_wp2
      (try simp only [Exit.inBlock, Exit.then]); (first | refine bodyPost_ret (results_none rfl _ _ _) rfl ?_ | refine bodyPost_end (results_none rfl _ _ _) rfl ?_)
      exact ⟨rfl, vo, BKo.out, HO.out, HB.out, KeepBut.refl _ _ _, Or.inl rfl⟩
  · rw [if_neg c0] at h
    have c0b : ((word.length : Int) == W) = false := beq_eq_false_iff_ne.mpr c0
    clear c0
    by_cases c1 : 0 < (word.length : Int)
    · rw [if_pos c1] at h
      have c1b : decide ((word.length : Int) > 0) = true := decide_eq_true c1
      have c1n : 0 < word.length := by omega
      have c1c : ((word.length : Int) == 0) = false := beq_eq_false_iff_ne.mpr (by omega)
      have C1D : Aside0 (¬ (word.length : Int) = 0) := ⟨by omega⟩
      by_cases c2 : 0 ≤ wrap64 ((word.length : Int) - p)
      · rw [if_pos c2] at h
        by_cases c3 : wrap64 ((word.length : Int) - p) < (word.length : Int)
        · rw [if_pos c3] at h
          obtain ⟨fi, hfi⟩ : ∃ i_ : Int, i_ = rd word (wrap64 ((word.length : Int) - p)) := ⟨_, rfl⟩
          rw [← hfi] at h
          have H' := Aside0.mk h
          clear h
          obtain ⟨ad, e_, hx⟩ := Kd.at_int (Kd.R_reads' HW.out).2.2 (wrap64 ((word.length : Int) - p)) c2 c3
          cases e_
          rw [← hfi] at hx
          clear hfi
          replace c2 := eq_true c2
          replace c3 := eq_true c3
          clear c1
          go_enter Try.func67, Try.ntmps67
          go_wp2
          go_loopg [9] k (fun kq v9 w' => ∃ (x9 : Int) (x3 : List ByteArray) (vr : Value), v9 = .int .i64 x9 ∧ Aside0 (impl_Lock_least.rep kq W D x3 word p fi x9 = some r) ∧ Aside0 (kq ≤ k) ∧ Aside0 (w'.heap[go]? = some (.cells #[vr] 31 (0, 0))) ∧ Aside0 (Kd.R Kd.string 9 w' w0.heap.size (fun _ => True) vr x3) ∧ Aside0 (Below w0.heap.size w0 w') ∧ Aside0 (KeepBut w w' go vo.ownBlock) ∧ Aside0 (vr.ownBlock = vo.ownBlock ∨ ∃ b, vr.ownBlock = some b ∧ w.heap.size ≤ b))
          case atStart => exact ⟨fi, out, vo, (by first | rfl | (simp; done) | (simp [*]; done)), H', ⟨Nat.le_refl _⟩, BKo, HO, HB, ⟨KeepBut.refl _ _ _⟩, ⟨Or.inl rfl⟩⟩
          case round =>
            clear H'
            try clear p2
            obtain ⟨x9, x3, vr, rfl, HA, HK1, BKr, HOr, HBw, HKB, HAT⟩ := hrel
            replace BKw := Aside0.mk (KeepBut.blk HKB.out BKw.out (blk_ne BKw.out BKo.out (by decide)) (Kd.R_ne HO.out BKw.out (by decide)))
            replace BKl := Aside0.mk (KeepBut.blk HKB.out BKl.out (blk_ne BKl.out BKo.out (by decide)) (Kd.R_ne HO.out BKl.out (by decide)))
            replace BKp := Aside0.mk (KeepBut.blk HKB.out BKp.out (blk_ne BKp.out BKo.out (by decide)) (Kd.R_ne HO.out BKp.out (by decide)))
            replace HW := Aside0.mk (impl_Lock_least.keepW HW.out BKo.out HO.out HKB.out)
            replace BKo := BKr
            replace HO := HOr
            replace HB := HBw
            clear BKr HOr HBw
            have hszr : w0.heap.size ≤ wr.heap.size := HB.out.size
            have hzl : wr.cell? ⟨gl, 1, none⟩ = some (.int .i64 D) := (blk_cell BKl.out 1).trans rfl
            cases gk with
            | zero => exact absurd HA.out (by simp [impl_Lock_least.rep])
            | succ kq =>
              have H := HA.out
              clear HA
              simp only [impl_Lock_least.rep] at H
              by_cases c7 : x9 < D
              · rw [if_pos c7] at H
                have c7b : decide (x9 < D) = true := decide_eq_true c7
                clear c7
                by_cases c8 : word.length < 17592186044000
                · rw [if_pos c8] at H
                  have LM := Aside0.mk c8
                  clear c8
                  rw [if_neg C1D.out] at H
                  by_cases c9 : x9 > fi
                  · rw [if_pos c9] at H
                    have c9b : decide (x9 > fi) = true := decide_eq_true c9
                    clear c9
                    obtain ⟨o3, HP, H⟩ := Option.bind_eq_some_iff.mp H
                    replace HP : impl_Lock_least.put kq W D x3 (word ++ [x9]) (wrap64 ((word.length : Int) + 1)) = some o3 := by first | exact HP | (rw [if_pos (show ((([] : List Int).length : Nat) : Int) = 0 from rfl), show wrap64 ((([] : List Int).length : Nat) + 1 : Int) = 1 from by simp [wrap64]] at HP; exact HP)
                    obtain ⟨y61, hy61⟩ : ∃ y_ : List Int, y_ = word ++ [x9] := ⟨_, rfl⟩
                    rw [← hy61] at HP
                    have NY := Aside0.mk hy61
                    clear hy61
                    replace HP := Aside0.mk HP
                    have H' := Aside0.mk H
                    clear H
                    go_wp2
                    refine start_ (n := 9) (S := fun w' => w'.cell? ⟨gp, 0, none⟩ = some (.func (.func 67) #[] #[.pointer (some ⟨gw, 0, none⟩), .pointer (some ⟨go, 0, none⟩), .pointer (some ⟨gl, 0, none⟩), .pointer (some ⟨gp, 0, none⟩)])) (ds := [8]) #[false, false, false, false, false, false, false, false, false] (by kernel_rfl) rfl rfl (((blk_cell BKp.out 0).trans rfl)) (fun hHeld => ?_)
                    have HBr := Aside0.mk (below_drew1 (Below.refl wr.heap.size wr))
                    generalize wr.drew = wd at HBr hHeld ⊢
                    refine pure_ (i := 2) (N := some 57) (v := ?_) (a' := ?_) #[false, false, true, false, false, false, false, false, false] rfl rfl (by kernel_rfl) (fun _ _ _ h => h) (Or.inl ⟨by rfl, ?_⟩) ?_ ?_
                    rotate_left
                    · intro w'
                      go_simp
                      with_reducible rfl
                    rotate_left
                    · simp only [Act.put, List.setIfInBounds_toArray, List.set_cons_zero, List.set_cons_succ, i64_w, i32_w]
                      rfl
                    refine pure_ (i := 4) (N := some 59) (v := ?_) (a' := ?_) #[false, false, true, false, true, false, false, false, false] rfl rfl (by kernel_rfl) (fun _ _ _ h => h) (Or.inl ⟨by rfl, ?_⟩) ?_ ?_
                    rotate_left
                    · intro w'
                      go_simp
                      with_reducible rfl
                    rotate_left
                    · simp only [Act.put, List.setIfInBounds_toArray, List.set_cons_zero, List.set_cons_succ, i64_w, i32_w]
                      rfl
                    refine pure_ (i := 7) (N := some 62) (v := ?_) (a' := ?_) #[false, false, true, false, true, false, false, true, false] rfl rfl (by kernel_rfl) (fun _ _ _ h => h) (Or.inl ⟨by rfl, ?_⟩) ?_ ?_
                    rotate_left
                    · intro w'
                      go_simp
                      with_reducible rfl
                    rotate_left
                    · simp only [Act.put, List.setIfInBounds_toArray, List.set_cons_zero, List.set_cons_succ, i64_w, i32_w]
                      rfl
                    refine take_ (i := 0) (N := some 55) (v := ?_) (a' := ?_) #[true, false, true, false, true, false, false, true, false] rfl rfl (by kernel_rfl) (fun _ _ _ h => h) (Or.inl ⟨by rfl, ?_⟩) hHeld ?_ ?_
                    rotate_left
                    · intro w' s0
                      go_simp
                      with_reducible rfl
                    rotate_left
                    · simp only [Act.put, List.setIfInBounds_toArray, List.set_cons_zero, List.set_cons_succ, i64_w, i32_w]
                      rfl
                    refine join_ (σ := Value × Value × Value) 2 #[true, true, true, true, true, true, false, true, false] (fun s => [(56, s.1), (58, s.2.1), (60, s.2.2)]) (fun s w' => Kd.R (Kd.int .i64) 3 w' wr.heap.size (fun k_ => some k_ ≠ s.2.2.ownBlock) s.2.1 word ∧ Kd.R (Kd.int .i64) 3 w' wr.heap.size (fun k_ => some k_ ≠ s.2.1.ownBlock) s.2.2 [x9] ∧ Below wr.heap.size wr w') ?_ ?_
                    rotate_left
                    · intro hCont
                      refine two_ (i := 1) (j := 5) (Ni := some 56) (Nj := some 60) #[true, true, true, false, true, false, false, true, false] #[true, false, true, false, true, true, false, true, false] rfl rfl rfl rfl (by kernel_rfl) (by decide) (by decide) (fun K hK => ?_) (fun K hK => ?_)
                      · skip
                        refine Kd.R_lit_step (Kd.int .i64) _ 3 ?hg (N := 56) ?hd (xs := ([] : List Int)) (inner := []) (ok := fun _ => True) (okp := fun _ => True) ?hr ?hp (fun _ hk => hk) trivial (Below.refl _ _) (Nat.le_refl _) (by simp) ?_; (case hd => rfl); (case hg => rfl); (case hr => first | (go_simp; done) | (go_simp; rfl)); (case hp => exact Reps.none _ _)
                        intro v56 w56 ho hb hg_ hnew_
                        clear hg_ hnew_
                        have H56 := Aside0.mk (Kd.R_lower ho HBr.out.size)
                        replace HBr := Aside0.mk (below_step HBr.out hb)
                        clear hb ho
                        refine hK.out _ _ (((blk_cell (blk_below BKp.out HBr.out) 0).trans rfl)) (fun hHeld => ?_)
                        clear hK K
                        refine norm_ (a' := ?_) ?_ ?_
                        rotate_left
                        · show Act.put _ (some 56) _ = _
                          simp only [Act.put, List.setIfInBounds_toArray, List.set_cons_zero, List.set_cons_succ, i64_w, i32_w]
                          rfl
                        refine two_ (i := 3) (j := 5) (Ni := some 58) (Nj := some 60) #[true, true, true, true, true, false, false, true, false] #[true, true, true, false, true, true, false, true, false] rfl rfl rfl rfl (by kernel_rfl) (by decide) (by decide) (fun K hK => ?_) (fun K hK => ?_)
                        · skip
                          refine Kd.R_append_rows_step (Kd.int .i64) (w0 := wr) wr.heap.size (by rfl) (.tmp 56) (.tmp 57) 50 3 (.int .i64 0) 8 rfl Try.underlying50 info3 rfl (by decide) (by omega) v56 [] word _ _ _ (fun _ => True) (fun _ => False) rfl rfl ?aO ?aR (fun _ _ h => h) (fun _ h => h.elim) ?aF ?aB ?aS ?aL ?_
                          (case aR => exact (Kd.R_reads' (Kd.R_below HW.out HBr.out)).2.2)
                          (case aB => exact HBr.out)
                          (case aF => exact (fun _ _ => trivial))
                          (case aO => exact H56.out)
                          (case aS => exact HBr.out.size)
                          (case aL => have := LM.out; simp only [List.length_nil]; omega)
                          intro v58 w58 ho hb hg hat
                          replace ho : Kd.R (Kd.int .i64) 3 w58 wr.heap.size (fun _ => True) v58 word := ho
                          have H58 := Aside0.mk ho
                          clear H56
                          replace HBr := Aside0.mk hb
                          clear ho hb hg hat
                          refine hK.out _ _ (((blk_cell (blk_below BKp.out HBr.out) 0).trans rfl)) (fun hHeld => ?_)
                          clear hK K
                          refine norm_ (a' := ?_) ?_ ?_
                          rotate_left
                          · show Act.put _ (some 58) _ = _
                            simp only [Act.put, List.setIfInBounds_toArray, List.set_cons_zero, List.set_cons_succ, i64_w, i32_w]
                            rfl
                          refine one_ (i := 5) (N := some 60) #[true, true, true, true, true, true, false, true, false] rfl rfl (by kernel_rfl) (by decide) (fun K hK => ?_)
                          refine Kd.R_lit_step (Kd.int .i64) _ 3 ?hg (N := 60) ?hd (xs := ([x9] : List Int)) (inner := [.int .i64 x9]) (ok := fun _ => True) (okp := fun _ => True) ?hr ?hp (fun _ hk => hk) trivial (Below.refl _ _) (Nat.le_refl _) (by simp) ?_; (case hd => rfl); (case hg => rfl); (case hr => first | (go_simp; done) | (go_simp; rfl)); (case hp => exact (Reps.one (show Kd.M (Kd.int .i64) _ _ _ x9 [.int .i64 x9] from rfl) (Reps.none _ _)))
                          intro v60 w60 ho hb hg_ hnew_
                          clear hg_ hnew_
                          have H60 := Aside0.mk (Kd.R_mono (Kd.R_lower (Kd.R_new' ho (Kd.R_lt H58.out)) HBr.out.size) (fun _ hk => hk.2))
                          replace H58 := Aside0.mk (Kd.R_mono (Kd.R_elder' H58.out (Kd.R_base ho) hb) (fun _ hk => hk.2))
                          replace HBr := Aside0.mk (below_step HBr.out hb)
                          clear hb ho
                          refine hK.out _ _ (((blk_cell (blk_below BKp.out HBr.out) 0).trans rfl)) (fun hHeld => ?_)
                          clear hK K
                          refine norm_ (a' := ?_) ?_ ?_
                          rotate_left
                          · show Act.put _ (some 60) _ = _
                            simp only [Act.put, List.setIfInBounds_toArray, List.set_cons_zero, List.set_cons_succ, i64_w, i32_w]
                            rfl
                          exact norm_ (by simp only [putAll, Act.put, List.setIfInBounds_toArray, List.set_cons_zero, List.set_cons_succ]) (hCont (v56, v58, v60) _ ⟨H58.out, H60.out, HBr.out⟩)
                        · skip
                          refine Kd.R_lit_step (Kd.int .i64) _ 3 ?hg (N := 60) ?hd (xs := ([x9] : List Int)) (inner := [.int .i64 x9]) (ok := fun _ => True) (okp := fun _ => True) ?hr ?hp (fun _ hk => hk) trivial (Below.refl _ _) (Nat.le_refl _) (by simp) ?_; (case hd => rfl); (case hg => rfl); (case hr => first | (go_simp; done) | (go_simp; rfl)); (case hp => exact (Reps.one (show Kd.M (Kd.int .i64) _ _ _ x9 [.int .i64 x9] from rfl) (Reps.none _ _)))
                          intro v60 w60 ho hb hg_ hnew_
                          clear hg_ hnew_
                          have H60 := Aside0.mk (Kd.R_mono (Kd.R_lower (Kd.R_new' ho (Kd.R_lt H56.out)) HBr.out.size) (fun _ hk => hk.2))
                          replace H56 := Aside0.mk (Kd.R_mono (Kd.R_elder' H56.out (Kd.R_base ho) hb) (fun _ hk => hk.2))
                          replace HBr := Aside0.mk (below_step HBr.out hb)
                          clear hb ho
                          refine hK.out _ _ (((blk_cell (blk_below BKp.out HBr.out) 0).trans rfl)) (fun hHeld => ?_)
                          clear hK K
                          refine norm_ (a' := ?_) ?_ ?_
                          rotate_left
                          · show Act.put _ (some 60) _ = _
                            simp only [Act.put, List.setIfInBounds_toArray, List.set_cons_zero, List.set_cons_succ, i64_w, i32_w]
                            rfl
                          refine one_ (i := 3) (N := some 58) #[true, true, true, true, true, true, false, true, false] rfl rfl (by kernel_rfl) (by decide) (fun K hK => ?_)
                          refine Kd.R_append_rows_step (Kd.int .i64) (w0 := wr) wr.heap.size (by rfl) (.tmp 56) (.tmp 57) 50 3 (.int .i64 0) 8 rfl Try.underlying50 info3 rfl (by decide) (by omega) v56 [] word _ _ _ (fun k_ => some k_ ≠ (v60 : Value).ownBlock) (fun _ => False) rfl rfl ?aO ?aR (fun _ _ h => h) (fun _ h => h.elim) ?aF ?aB ?aS ?aL ?_
                          (case aR => exact (Kd.R_reads' (Kd.R_below HW.out HBr.out)).2.2)
                          (case aB => exact HBr.out)
                          (case aF => exact (fun k_ hk => Kd.fresh' (Kd.R_lt H60.out) k_ hk))
                          (case aO => exact H56.out)
                          (case aS => exact HBr.out.size)
                          (case aL => have := LM.out; simp only [List.length_nil]; omega)
                          intro v58 w58 ho hb hg hat
                          replace ho : Kd.R (Kd.int .i64) 3 w58 wr.heap.size (fun k_ => some k_ ≠ (v60 : Value).ownBlock) v58 word := ho
                          replace H60 := Aside0.mk (Kd.R_mono (Kd.R_after (ok := fun _ => True) (Kd.R_mono H60.out (fun _ hk => ⟨trivial, hk⟩)) hg hat) (fun _ hk => hk.2))
                          have H58 := Aside0.mk ho
                          clear H56
                          replace HBr := Aside0.mk hb
                          clear ho hb hg hat
                          refine hK.out _ _ (((blk_cell (blk_below BKp.out HBr.out) 0).trans rfl)) (fun hHeld => ?_)
                          clear hK K
                          refine norm_ (a' := ?_) ?_ ?_
                          rotate_left
                          · show Act.put _ (some 58) _ = _
                            simp only [Act.put, List.setIfInBounds_toArray, List.set_cons_zero, List.set_cons_succ, i64_w, i32_w]
                            rfl
                          exact norm_ (by simp only [putAll, Act.put, List.setIfInBounds_toArray, List.set_cons_zero, List.set_cons_succ]) (hCont (v56, v58, v60) _ ⟨H58.out, H60.out, HBr.out⟩)
                      · skip
                        refine Kd.R_lit_step (Kd.int .i64) _ 3 ?hg (N := 60) ?hd (xs := ([x9] : List Int)) (inner := [.int .i64 x9]) (ok := fun _ => True) (okp := fun _ => True) ?hr ?hp (fun _ hk => hk) trivial (Below.refl _ _) (Nat.le_refl _) (by simp) ?_; (case hd => rfl); (case hg => rfl); (case hr => first | (go_simp; done) | (go_simp; rfl)); (case hp => exact (Reps.one (show Kd.M (Kd.int .i64) _ _ _ x9 [.int .i64 x9] from rfl) (Reps.none _ _)))
                        intro v60 w60 ho hb hg_ hnew_
                        clear hg_ hnew_
                        have H60 := Aside0.mk (Kd.R_lower ho HBr.out.size)
                        replace HBr := Aside0.mk (below_step HBr.out hb)
                        clear hb ho
                        refine hK.out _ _ (((blk_cell (blk_below BKp.out HBr.out) 0).trans rfl)) (fun hHeld => ?_)
                        clear hK K
                        refine norm_ (a' := ?_) ?_ ?_
                        rotate_left
                        · show Act.put _ (some 60) _ = _
                          simp only [Act.put, List.setIfInBounds_toArray, List.set_cons_zero, List.set_cons_succ, i64_w, i32_w]
                          rfl
                        refine one_ (i := 1) (N := some 56) #[true, true, true, false, true, true, false, true, false] rfl rfl (by kernel_rfl) (by decide) (fun K hK => ?_)
                        refine Kd.R_lit_step (Kd.int .i64) _ 3 ?hg (N := 56) ?hd (xs := ([] : List Int)) (inner := []) (ok := fun _ => True) (okp := fun _ => True) ?hr ?hp (fun _ hk => hk) trivial (Below.refl _ _) (Nat.le_refl _) (by simp) ?_; (case hd => rfl); (case hg => rfl); (case hr => first | (go_simp; done) | (go_simp; rfl)); (case hp => exact Reps.none _ _)
                        intro v56 w56 ho hb hg_ hnew_
                        clear hg_ hnew_
                        have H56 := Aside0.mk (Kd.R_mono (Kd.R_lower (Kd.R_new' ho (Kd.R_lt H60.out)) HBr.out.size) (fun _ hk => hk.2))
                        replace H60 := Aside0.mk (Kd.R_mono (Kd.R_elder' H60.out (Kd.R_base ho) hb) (fun _ hk => hk.2))
                        replace HBr := Aside0.mk (below_step HBr.out hb)
                        clear hb ho
                        refine hK.out _ _ (((blk_cell (blk_below BKp.out HBr.out) 0).trans rfl)) (fun hHeld => ?_)
                        clear hK K
                        refine norm_ (a' := ?_) ?_ ?_
                        rotate_left
                        · show Act.put _ (some 56) _ = _
                          simp only [Act.put, List.setIfInBounds_toArray, List.set_cons_zero, List.set_cons_succ, i64_w, i32_w]
                          rfl
                        refine one_ (i := 3) (N := some 58) #[true, true, true, true, true, true, false, true, false] rfl rfl (by kernel_rfl) (by decide) (fun K hK => ?_)
                        refine Kd.R_append_rows_step (Kd.int .i64) (w0 := wr) wr.heap.size (by rfl) (.tmp 56) (.tmp 57) 50 3 (.int .i64 0) 8 rfl Try.underlying50 info3 rfl (by decide) (by omega) v56 [] word _ _ _ (fun k_ => some k_ ≠ (v60 : Value).ownBlock) (fun _ => False) rfl rfl ?aO ?aR (fun _ _ h => h) (fun _ h => h.elim) ?aF ?aB ?aS ?aL ?_
                        (case aR => exact (Kd.R_reads' (Kd.R_below HW.out HBr.out)).2.2)
                        (case aB => exact HBr.out)
                        (case aF => exact (fun k_ hk => Kd.fresh' (Kd.R_lt H60.out) k_ hk))
                        (case aO => exact H56.out)
                        (case aS => exact HBr.out.size)
                        (case aL => have := LM.out; simp only [List.length_nil]; omega)
                        intro v58 w58 ho hb hg hat
                        replace ho : Kd.R (Kd.int .i64) 3 w58 wr.heap.size (fun k_ => some k_ ≠ (v60 : Value).ownBlock) v58 word := ho
                        replace H60 := Aside0.mk (Kd.R_mono (Kd.R_after (ok := fun _ => True) (Kd.R_mono H60.out (fun _ hk => ⟨trivial, hk⟩)) hg hat) (fun _ hk => hk.2))
                        have H58 := Aside0.mk ho
                        clear H56
                        replace HBr := Aside0.mk hb
                        clear ho hb hg hat
                        refine hK.out _ _ (((blk_cell (blk_below BKp.out HBr.out) 0).trans rfl)) (fun hHeld => ?_)
                        clear hK K
                        refine norm_ (a' := ?_) ?_ ?_
                        rotate_left
                        · show Act.put _ (some 58) _ = _
                          simp only [Act.put, List.setIfInBounds_toArray, List.set_cons_zero, List.set_cons_succ, i64_w, i32_w]
                          rfl
                        exact norm_ (by simp only [putAll, Act.put, List.setIfInBounds_toArray, List.set_cons_zero, List.set_cons_succ]) (hCont (v56, v58, v60) _ ⟨H58.out, H60.out, HBr.out⟩)
                    rintro ⟨v56, v58, v60⟩ w60 ⟨h0_, h1_, h2_⟩
                    have H58 := Aside0.mk h0_
                    have H60 := Aside0.mk h1_
                    replace HBr := Aside0.mk h2_
                    clear h0_ h1_ h2_
                    have hHeld : w60.cell? ⟨gp, 0, none⟩ = some (.func (.func 67) #[] #[.pointer (some ⟨gw, 0, none⟩), .pointer (some ⟨go, 0, none⟩), .pointer (some ⟨gl, 0, none⟩), .pointer (some ⟨gp, 0, none⟩)]) := ((blk_cell (blk_below BKp.out HBr.out) 0).trans rfl)
                    obtain ⟨A60, c60, e60⟩ := Kd.R_slice H60.out
                    subst e60
                    have e58_ : ∃ v_ : Value, v_ = v58 := ⟨_, rfl⟩
                    refine norm_ (a' := ?_) ?_ ?_
                    rotate_left
                    · simp only [putAll, Act.put, List.setIfInBounds_toArray, List.set_cons_zero, List.set_cons_succ]
                      rfl
                    refine one_ (i := 6) (N := some 61) #[true, true, true, true, true, true, true, true, false] rfl rfl (by kernel_rfl) (by decide) (fun K hK => ?_)
                    refine Kd.R_append_rows_step (Kd.int .i64) (w0 := wr) wr.heap.size (by rfl) (.tmp 58) (.tmp 60) 50 3 (.int .i64 0) 8 rfl Try.underlying50 info3 rfl (by decide) (by omega) v58 word [x9] _ _ _ (fun k_ => some k_ ≠ (.slice A60 [x9].length c60 : Value).ownBlock) (fun _ => False) rfl rfl ?aO ?aR (fun _ _ h => h) (fun _ h => h.elim) ?aF ?aB ?aS ?aL ?_
                    (case aR => exact (Kd.R_reads' H60.out).2.2)
                    (case aB => exact HBr.out)
                    (case aF => exact (fun k_ hk => Kd.fresh' (Kd.R_lt H60.out) k_ hk))
                    (case aO => exact H58.out)
                    (case aS => exact HBr.out.size)
                    (case aL => have := LM.out; simp only [List.length_cons, List.length_nil]; omega)
                    intro v61 w61 ho hb hg hat
                    rw [← NY.out] at ho
                    have H61 := Aside0.mk (Kd.R_mono (ok' := fun _ => True) ho (fun _ _ => trivial))
                    replace HBr := Aside0.mk hb
                    clear ho hb hg hat H58 H60
                    obtain ⟨A61, c61, e61⟩ := Kd.R_slice H61.out
                    subst e61
                    refine hK.out _ _ (((blk_cell (blk_below BKp.out HBr.out) 0).trans rfl)) (fun hHeld => ?_)
                    clear hK K
                    refine norm_ (a' := ?_) ?_ ?_
                    rotate_left
                    · show Act.put _ (some 61) _ = _
                      simp only [Act.put, List.setIfInBounds_toArray, List.set_cons_zero, List.set_cons_succ, i64_w, i32_w]
                      rfl
                    refine last_ (i := 8) (N := some 63) #[true, true, true, true, true, true, true, true, true] rfl rfl (by kernel_rfl) (by decide) (fun K hK => ?_)
                    refine impl_Lock_least.goesC 55 #[.pointer (some ⟨gw, 0, none⟩), .pointer (some ⟨go, 0, none⟩), .pointer (some ⟨gl, 0, none⟩), .pointer (some ⟨gp, 0, none⟩)] #[.slice A61 y61.length c61, .int .i64 (wrap64 ((word.length : Int) + 1))] Try.func67 (by kernel_rfl) rfl (by rfl) rfl rfl rfl (by (try simp only [List.map_toArray, List.map_cons, List.map_nil]); first | done | rfl) ?_
                    refine (ih kq (by have := HK1.out; omega) x3 y61 (wrap64 ((word.length : Int) + 1)) o3 _ vr A61 c61 ?_ (blk_below BKw.out HBr.out) (blk_below BKo.out HBr.out) (blk_below BKl.out HBr.out) (blk_below BKp.out HBr.out) (Kd.R_below HO.out HBr.out) (Kd.R_lower H61.out hszr) HP.out).mono ?_
                    · exact below_then HB.out hszr HBr.out
                    rintro e w9 ⟨rfl, v9_, hbo9, HO9, HB9, hk9, hat9⟩
                    refine ⟨_, rfl, ?_⟩
                    refine hK.out _ _ ?_
                    clear hK K
                    refine norm_ (a' := ?_) ?_ ?_
                    rotate_left
                    · show Act.put _ (some 63) _ = _
                      simp only [Act.put, List.setIfInBounds_toArray, List.set_cons_zero, List.set_cons_succ, i64_w, i32_w]
                      rfl
                    refine done_ (by kernel_rfl) ?_
                    try go_wp2
                    go_roundg kq
                    case measure => have := HK1.out; omega
                    case rel => exact ⟨wrap64 (x9 + 1), o3, v9_, (by first | rfl | (simp; done) | (simp [*]; done)), H', ⟨by have := HK1.out; omega⟩, ⟨hbo9⟩, ⟨HO9⟩, ⟨HB9⟩, ⟨HKB.out.trans ((KeepBut.of_below HBr.out go vr.ownBlock).trans hk9 (Or.inl rfl)) HAT.out⟩, ⟨by
                      rcases hat9 with e9 | ⟨b, e9, hb_⟩
                      · rw [e9]; exact HAT.out
                      · exact Or.inr ⟨b, e9, Nat.le_trans HKB.out.1 (Nat.le_trans HBr.out.size hb_)⟩⟩⟩
                  · rw [if_neg c9] at H
                    have c9b : decide (x9 > fi) = false := decide_eq_false c9
                    clear c9
                    obtain ⟨o3, HP, H⟩ := Option.bind_eq_some_iff.mp H
                    replace HP : impl_Lock_least.put kq W D x3 (word ++ [x9]) p = some o3 := by first | exact HP | (rw [if_pos (show ((([] : List Int).length : Nat) : Int) = 0 from rfl), show wrap64 ((([] : List Int).length : Nat) + 1 : Int) = 1 from by simp [wrap64]] at HP; exact HP)
                    obtain ⟨y61, hy61⟩ : ∃ y_ : List Int, y_ = word ++ [x9] := ⟨_, rfl⟩
                    rw [← hy61] at HP
                    have NY := Aside0.mk hy61
                    clear hy61
                    replace HP := Aside0.mk HP
                    have H' := Aside0.mk H
                    clear H
                    go_wp2
                    refine start_ (n := 9) (S := fun w' => w'.cell? ⟨gp, 0, none⟩ = some (.func (.func 67) #[] #[.pointer (some ⟨gw, 0, none⟩), .pointer (some ⟨go, 0, none⟩), .pointer (some ⟨gl, 0, none⟩), .pointer (some ⟨gp, 0, none⟩)])) (ds := [8]) #[false, false, false, false, false, false, false, false, false] (by kernel_rfl) rfl rfl (((blk_cell BKp.out 0).trans rfl)) (fun hHeld => ?_)
                    have HBr := Aside0.mk (below_drew1 (Below.refl wr.heap.size wr))
                    generalize wr.drew = wd at HBr hHeld ⊢
                    refine pure_ (i := 2) (N := some 57) (v := ?_) (a' := ?_) #[false, false, true, false, false, false, false, false, false] rfl rfl (by kernel_rfl) (fun _ _ _ h => h) (Or.inl ⟨by rfl, ?_⟩) ?_ ?_
                    rotate_left
                    · intro w'
                      go_simp
                      with_reducible rfl
                    rotate_left
                    · simp only [Act.put, List.setIfInBounds_toArray, List.set_cons_zero, List.set_cons_succ, i64_w, i32_w]
                      rfl
                    refine pure_ (i := 4) (N := some 59) (v := ?_) (a' := ?_) #[false, false, true, false, true, false, false, false, false] rfl rfl (by kernel_rfl) (fun _ _ _ h => h) (Or.inl ⟨by rfl, ?_⟩) ?_ ?_
                    rotate_left
                    · intro w'
                      go_simp
                      with_reducible rfl
                    rotate_left
                    · simp only [Act.put, List.setIfInBounds_toArray, List.set_cons_zero, List.set_cons_succ, i64_w, i32_w]
                      rfl
                    refine pure_ (i := 7) (N := some 62) (v := ?_) (a' := ?_) #[false, false, true, false, true, false, false, true, false] rfl rfl (by kernel_rfl) (fun _ _ _ h => h) (Or.inl ⟨by rfl, ?_⟩) ?_ ?_
                    rotate_left
                    · intro w'
                      go_simp
                      with_reducible rfl
                    rotate_left
                    · simp only [Act.put, List.setIfInBounds_toArray, List.set_cons_zero, List.set_cons_succ, i64_w, i32_w]
                      rfl
                    refine take_ (i := 0) (N := some 55) (v := ?_) (a' := ?_) #[true, false, true, false, true, false, false, true, false] rfl rfl (by kernel_rfl) (fun _ _ _ h => h) (Or.inl ⟨by rfl, ?_⟩) hHeld ?_ ?_
                    rotate_left
                    · intro w' s0
                      go_simp
                      with_reducible rfl
                    rotate_left
                    · simp only [Act.put, List.setIfInBounds_toArray, List.set_cons_zero, List.set_cons_succ, i64_w, i32_w]
                      rfl
                    refine join_ (σ := Value × Value × Value) 2 #[true, true, true, true, true, true, false, true, false] (fun s => [(56, s.1), (58, s.2.1), (60, s.2.2)]) (fun s w' => Kd.R (Kd.int .i64) 3 w' wr.heap.size (fun k_ => some k_ ≠ s.2.2.ownBlock) s.2.1 word ∧ Kd.R (Kd.int .i64) 3 w' wr.heap.size (fun k_ => some k_ ≠ s.2.1.ownBlock) s.2.2 [x9] ∧ Below wr.heap.size wr w') ?_ ?_
                    rotate_left
                    · intro hCont
                      refine two_ (i := 1) (j := 5) (Ni := some 56) (Nj := some 60) #[true, true, true, false, true, false, false, true, false] #[true, false, true, false, true, true, false, true, false] rfl rfl rfl rfl (by kernel_rfl) (by decide) (by decide) (fun K hK => ?_) (fun K hK => ?_)
                      · skip
                        refine Kd.R_lit_step (Kd.int .i64) _ 3 ?hg (N := 56) ?hd (xs := ([] : List Int)) (inner := []) (ok := fun _ => True) (okp := fun _ => True) ?hr ?hp (fun _ hk => hk) trivial (Below.refl _ _) (Nat.le_refl _) (by simp) ?_; (case hd => rfl); (case hg => rfl); (case hr => first | (go_simp; done) | (go_simp; rfl)); (case hp => exact Reps.none _ _)
                        intro v56 w56 ho hb hg_ hnew_
                        clear hg_ hnew_
                        have H56 := Aside0.mk (Kd.R_lower ho HBr.out.size)
                        replace HBr := Aside0.mk (below_step HBr.out hb)
                        clear hb ho
                        refine hK.out _ _ (((blk_cell (blk_below BKp.out HBr.out) 0).trans rfl)) (fun hHeld => ?_)
                        clear hK K
                        refine norm_ (a' := ?_) ?_ ?_
                        rotate_left
                        · show Act.put _ (some 56) _ = _
                          simp only [Act.put, List.setIfInBounds_toArray, List.set_cons_zero, List.set_cons_succ, i64_w, i32_w]
                          rfl
                        refine two_ (i := 3) (j := 5) (Ni := some 58) (Nj := some 60) #[true, true, true, true, true, false, false, true, false] #[true, true, true, false, true, true, false, true, false] rfl rfl rfl rfl (by kernel_rfl) (by decide) (by decide) (fun K hK => ?_) (fun K hK => ?_)
                        · skip
                          refine Kd.R_append_rows_step (Kd.int .i64) (w0 := wr) wr.heap.size (by rfl) (.tmp 56) (.tmp 57) 50 3 (.int .i64 0) 8 rfl Try.underlying50 info3 rfl (by decide) (by omega) v56 [] word _ _ _ (fun _ => True) (fun _ => False) rfl rfl ?aO ?aR (fun _ _ h => h) (fun _ h => h.elim) ?aF ?aB ?aS ?aL ?_
                          (case aR => exact (Kd.R_reads' (Kd.R_below HW.out HBr.out)).2.2)
                          (case aB => exact HBr.out)
                          (case aF => exact (fun _ _ => trivial))
                          (case aO => exact H56.out)
                          (case aS => exact HBr.out.size)
                          (case aL => have := LM.out; simp only [List.length_nil]; omega)
                          intro v58 w58 ho hb hg hat
                          replace ho : Kd.R (Kd.int .i64) 3 w58 wr.heap.size (fun _ => True) v58 word := ho
                          have H58 := Aside0.mk ho
                          clear H56
                          replace HBr := Aside0.mk hb
                          clear ho hb hg hat
                          refine hK.out _ _ (((blk_cell (blk_below BKp.out HBr.out) 0).trans rfl)) (fun hHeld => ?_)
                          clear hK K
                          refine norm_ (a' := ?_) ?_ ?_
                          rotate_left
                          · show Act.put _ (some 58) _ = _
                            simp only [Act.put, List.setIfInBounds_toArray, List.set_cons_zero, List.set_cons_succ, i64_w, i32_w]
                            rfl
                          refine one_ (i := 5) (N := some 60) #[true, true, true, true, true, true, false, true, false] rfl rfl (by kernel_rfl) (by decide) (fun K hK => ?_)
                          refine Kd.R_lit_step (Kd.int .i64) _ 3 ?hg (N := 60) ?hd (xs := ([x9] : List Int)) (inner := [.int .i64 x9]) (ok := fun _ => True) (okp := fun _ => True) ?hr ?hp (fun _ hk => hk) trivial (Below.refl _ _) (Nat.le_refl _) (by simp) ?_; (case hd => rfl); (case hg => rfl); (case hr => first | (go_simp; done) | (go_simp; rfl)); (case hp => exact (Reps.one (show Kd.M (Kd.int .i64) _ _ _ x9 [.int .i64 x9] from rfl) (Reps.none _ _)))
                          intro v60 w60 ho hb hg_ hnew_
                          clear hg_ hnew_
                          have H60 := Aside0.mk (Kd.R_mono (Kd.R_lower (Kd.R_new' ho (Kd.R_lt H58.out)) HBr.out.size) (fun _ hk => hk.2))
                          replace H58 := Aside0.mk (Kd.R_mono (Kd.R_elder' H58.out (Kd.R_base ho) hb) (fun _ hk => hk.2))
                          replace HBr := Aside0.mk (below_step HBr.out hb)
                          clear hb ho
                          refine hK.out _ _ (((blk_cell (blk_below BKp.out HBr.out) 0).trans rfl)) (fun hHeld => ?_)
                          clear hK K
                          refine norm_ (a' := ?_) ?_ ?_
                          rotate_left
                          · show Act.put _ (some 60) _ = _
                            simp only [Act.put, List.setIfInBounds_toArray, List.set_cons_zero, List.set_cons_succ, i64_w, i32_w]
                            rfl
                          exact norm_ (by simp only [putAll, Act.put, List.setIfInBounds_toArray, List.set_cons_zero, List.set_cons_succ]) (hCont (v56, v58, v60) _ ⟨H58.out, H60.out, HBr.out⟩)
                        · skip
                          refine Kd.R_lit_step (Kd.int .i64) _ 3 ?hg (N := 60) ?hd (xs := ([x9] : List Int)) (inner := [.int .i64 x9]) (ok := fun _ => True) (okp := fun _ => True) ?hr ?hp (fun _ hk => hk) trivial (Below.refl _ _) (Nat.le_refl _) (by simp) ?_; (case hd => rfl); (case hg => rfl); (case hr => first | (go_simp; done) | (go_simp; rfl)); (case hp => exact (Reps.one (show Kd.M (Kd.int .i64) _ _ _ x9 [.int .i64 x9] from rfl) (Reps.none _ _)))
                          intro v60 w60 ho hb hg_ hnew_
                          clear hg_ hnew_
                          have H60 := Aside0.mk (Kd.R_mono (Kd.R_lower (Kd.R_new' ho (Kd.R_lt H56.out)) HBr.out.size) (fun _ hk => hk.2))
                          replace H56 := Aside0.mk (Kd.R_mono (Kd.R_elder' H56.out (Kd.R_base ho) hb) (fun _ hk => hk.2))
                          replace HBr := Aside0.mk (below_step HBr.out hb)
                          clear hb ho
                          refine hK.out _ _ (((blk_cell (blk_below BKp.out HBr.out) 0).trans rfl)) (fun hHeld => ?_)
                          clear hK K
                          refine norm_ (a' := ?_) ?_ ?_
                          rotate_left
                          · show Act.put _ (some 60) _ = _
                            simp only [Act.put, List.setIfInBounds_toArray, List.set_cons_zero, List.set_cons_succ, i64_w, i32_w]
                            rfl
                          refine one_ (i := 3) (N := some 58) #[true, true, true, true, true, true, false, true, false] rfl rfl (by kernel_rfl) (by decide) (fun K hK => ?_)
                          refine Kd.R_append_rows_step (Kd.int .i64) (w0 := wr) wr.heap.size (by rfl) (.tmp 56) (.tmp 57) 50 3 (.int .i64 0) 8 rfl Try.underlying50 info3 rfl (by decide) (by omega) v56 [] word _ _ _ (fun k_ => some k_ ≠ (v60 : Value).ownBlock) (fun _ => False) rfl rfl ?aO ?aR (fun _ _ h => h) (fun _ h => h.elim) ?aF ?aB ?aS ?aL ?_
                          (case aR => exact (Kd.R_reads' (Kd.R_below HW.out HBr.out)).2.2)
                          (case aB => exact HBr.out)
                          (case aF => exact (fun k_ hk => Kd.fresh' (Kd.R_lt H60.out) k_ hk))
                          (case aO => exact H56.out)
                          (case aS => exact HBr.out.size)
                          (case aL => have := LM.out; simp only [List.length_nil]; omega)
                          intro v58 w58 ho hb hg hat
                          replace ho : Kd.R (Kd.int .i64) 3 w58 wr.heap.size (fun k_ => some k_ ≠ (v60 : Value).ownBlock) v58 word := ho
                          replace H60 := Aside0.mk (Kd.R_mono (Kd.R_after (ok := fun _ => True) (Kd.R_mono H60.out (fun _ hk => ⟨trivial, hk⟩)) hg hat) (fun _ hk => hk.2))
                          have H58 := Aside0.mk ho
                          clear H56
                          replace HBr := Aside0.mk hb
                          clear ho hb hg hat
                          refine hK.out _ _ (((blk_cell (blk_below BKp.out HBr.out) 0).trans rfl)) (fun hHeld => ?_)
                          clear hK K
                          refine norm_ (a' := ?_) ?_ ?_
                          rotate_left
                          · show Act.put _ (some 58) _ = _
                            simp only [Act.put, List.setIfInBounds_toArray, List.set_cons_zero, List.set_cons_succ, i64_w, i32_w]
                            rfl
                          exact norm_ (by simp only [putAll, Act.put, List.setIfInBounds_toArray, List.set_cons_zero, List.set_cons_succ]) (hCont (v56, v58, v60) _ ⟨H58.out, H60.out, HBr.out⟩)
                      · skip
                        refine Kd.R_lit_step (Kd.int .i64) _ 3 ?hg (N := 60) ?hd (xs := ([x9] : List Int)) (inner := [.int .i64 x9]) (ok := fun _ => True) (okp := fun _ => True) ?hr ?hp (fun _ hk => hk) trivial (Below.refl _ _) (Nat.le_refl _) (by simp) ?_; (case hd => rfl); (case hg => rfl); (case hr => first | (go_simp; done) | (go_simp; rfl)); (case hp => exact (Reps.one (show Kd.M (Kd.int .i64) _ _ _ x9 [.int .i64 x9] from rfl) (Reps.none _ _)))
                        intro v60 w60 ho hb hg_ hnew_
                        clear hg_ hnew_
                        have H60 := Aside0.mk (Kd.R_lower ho HBr.out.size)
                        replace HBr := Aside0.mk (below_step HBr.out hb)
                        clear hb ho
                        refine hK.out _ _ (((blk_cell (blk_below BKp.out HBr.out) 0).trans rfl)) (fun hHeld => ?_)
                        clear hK K
                        refine norm_ (a' := ?_) ?_ ?_
                        rotate_left
                        · show Act.put _ (some 60) _ = _
                          simp only [Act.put, List.setIfInBounds_toArray, List.set_cons_zero, List.set_cons_succ, i64_w, i32_w]
                          rfl
                        refine one_ (i := 1) (N := some 56) #[true, true, true, false, true, true, false, true, false] rfl rfl (by kernel_rfl) (by decide) (fun K hK => ?_)
                        refine Kd.R_lit_step (Kd.int .i64) _ 3 ?hg (N := 56) ?hd (xs := ([] : List Int)) (inner := []) (ok := fun _ => True) (okp := fun _ => True) ?hr ?hp (fun _ hk => hk) trivial (Below.refl _ _) (Nat.le_refl _) (by simp) ?_; (case hd => rfl); (case hg => rfl); (case hr => first | (go_simp; done) | (go_simp; rfl)); (case hp => exact Reps.none _ _)
                        intro v56 w56 ho hb hg_ hnew_
                        clear hg_ hnew_
                        have H56 := Aside0.mk (Kd.R_mono (Kd.R_lower (Kd.R_new' ho (Kd.R_lt H60.out)) HBr.out.size) (fun _ hk => hk.2))
                        replace H60 := Aside0.mk (Kd.R_mono (Kd.R_elder' H60.out (Kd.R_base ho) hb) (fun _ hk => hk.2))
                        replace HBr := Aside0.mk (below_step HBr.out hb)
                        clear hb ho
                        refine hK.out _ _ (((blk_cell (blk_below BKp.out HBr.out) 0).trans rfl)) (fun hHeld => ?_)
                        clear hK K
                        refine norm_ (a' := ?_) ?_ ?_
                        rotate_left
                        · show Act.put _ (some 56) _ = _
                          simp only [Act.put, List.setIfInBounds_toArray, List.set_cons_zero, List.set_cons_succ, i64_w, i32_w]
                          rfl
                        refine one_ (i := 3) (N := some 58) #[true, true, true, true, true, true, false, true, false] rfl rfl (by kernel_rfl) (by decide) (fun K hK => ?_)
                        refine Kd.R_append_rows_step (Kd.int .i64) (w0 := wr) wr.heap.size (by rfl) (.tmp 56) (.tmp 57) 50 3 (.int .i64 0) 8 rfl Try.underlying50 info3 rfl (by decide) (by omega) v56 [] word _ _ _ (fun k_ => some k_ ≠ (v60 : Value).ownBlock) (fun _ => False) rfl rfl ?aO ?aR (fun _ _ h => h) (fun _ h => h.elim) ?aF ?aB ?aS ?aL ?_
                        (case aR => exact (Kd.R_reads' (Kd.R_below HW.out HBr.out)).2.2)
                        (case aB => exact HBr.out)
                        (case aF => exact (fun k_ hk => Kd.fresh' (Kd.R_lt H60.out) k_ hk))
                        (case aO => exact H56.out)
                        (case aS => exact HBr.out.size)
                        (case aL => have := LM.out; simp only [List.length_nil]; omega)
                        intro v58 w58 ho hb hg hat
                        replace ho : Kd.R (Kd.int .i64) 3 w58 wr.heap.size (fun k_ => some k_ ≠ (v60 : Value).ownBlock) v58 word := ho
                        replace H60 := Aside0.mk (Kd.R_mono (Kd.R_after (ok := fun _ => True) (Kd.R_mono H60.out (fun _ hk => ⟨trivial, hk⟩)) hg hat) (fun _ hk => hk.2))
                        have H58 := Aside0.mk ho
                        clear H56
                        replace HBr := Aside0.mk hb
                        clear ho hb hg hat
                        refine hK.out _ _ (((blk_cell (blk_below BKp.out HBr.out) 0).trans rfl)) (fun hHeld => ?_)
                        clear hK K
                        refine norm_ (a' := ?_) ?_ ?_
                        rotate_left
                        · show Act.put _ (some 58) _ = _
                          simp only [Act.put, List.setIfInBounds_toArray, List.set_cons_zero, List.set_cons_succ, i64_w, i32_w]
                          rfl
                        exact norm_ (by simp only [putAll, Act.put, List.setIfInBounds_toArray, List.set_cons_zero, List.set_cons_succ]) (hCont (v56, v58, v60) _ ⟨H58.out, H60.out, HBr.out⟩)
                    rintro ⟨v56, v58, v60⟩ w60 ⟨h0_, h1_, h2_⟩
                    have H58 := Aside0.mk h0_
                    have H60 := Aside0.mk h1_
                    replace HBr := Aside0.mk h2_
                    clear h0_ h1_ h2_
                    have hHeld : w60.cell? ⟨gp, 0, none⟩ = some (.func (.func 67) #[] #[.pointer (some ⟨gw, 0, none⟩), .pointer (some ⟨go, 0, none⟩), .pointer (some ⟨gl, 0, none⟩), .pointer (some ⟨gp, 0, none⟩)]) := ((blk_cell (blk_below BKp.out HBr.out) 0).trans rfl)
                    obtain ⟨A60, c60, e60⟩ := Kd.R_slice H60.out
                    subst e60
                    have e58_ : ∃ v_ : Value, v_ = v58 := ⟨_, rfl⟩
                    refine norm_ (a' := ?_) ?_ ?_
                    rotate_left
                    · simp only [putAll, Act.put, List.setIfInBounds_toArray, List.set_cons_zero, List.set_cons_succ]
                      rfl
                    refine one_ (i := 6) (N := some 61) #[true, true, true, true, true, true, true, true, false] rfl rfl (by kernel_rfl) (by decide) (fun K hK => ?_)
                    refine Kd.R_append_rows_step (Kd.int .i64) (w0 := wr) wr.heap.size (by rfl) (.tmp 58) (.tmp 60) 50 3 (.int .i64 0) 8 rfl Try.underlying50 info3 rfl (by decide) (by omega) v58 word [x9] _ _ _ (fun k_ => some k_ ≠ (.slice A60 [x9].length c60 : Value).ownBlock) (fun _ => False) rfl rfl ?aO ?aR (fun _ _ h => h) (fun _ h => h.elim) ?aF ?aB ?aS ?aL ?_
                    (case aR => exact (Kd.R_reads' H60.out).2.2)
                    (case aB => exact HBr.out)
                    (case aF => exact (fun k_ hk => Kd.fresh' (Kd.R_lt H60.out) k_ hk))
                    (case aO => exact H58.out)
                    (case aS => exact HBr.out.size)
                    (case aL => have := LM.out; simp only [List.length_cons, List.length_nil]; omega)
                    intro v61 w61 ho hb hg hat
                    rw [← NY.out] at ho
                    have H61 := Aside0.mk (Kd.R_mono (ok' := fun _ => True) ho (fun _ _ => trivial))
                    replace HBr := Aside0.mk hb
                    clear ho hb hg hat H58 H60
                    obtain ⟨A61, c61, e61⟩ := Kd.R_slice H61.out
                    subst e61
                    refine hK.out _ _ (((blk_cell (blk_below BKp.out HBr.out) 0).trans rfl)) (fun hHeld => ?_)
                    clear hK K
                    refine norm_ (a' := ?_) ?_ ?_
                    rotate_left
                    · show Act.put _ (some 61) _ = _
                      simp only [Act.put, List.setIfInBounds_toArray, List.set_cons_zero, List.set_cons_succ, i64_w, i32_w]
                      rfl
                    refine last_ (i := 8) (N := some 63) #[true, true, true, true, true, true, true, true, true] rfl rfl (by kernel_rfl) (by decide) (fun K hK => ?_)
                    refine impl_Lock_least.goesC 55 #[.pointer (some ⟨gw, 0, none⟩), .pointer (some ⟨go, 0, none⟩), .pointer (some ⟨gl, 0, none⟩), .pointer (some ⟨gp, 0, none⟩)] #[.slice A61 y61.length c61, .int .i64 p] Try.func67 (by kernel_rfl) rfl (by rfl) rfl rfl rfl (by (try simp only [List.map_toArray, List.map_cons, List.map_nil]); first | done | rfl) ?_
                    refine (ih kq (by have := HK1.out; omega) x3 y61 p o3 _ vr A61 c61 ?_ (blk_below BKw.out HBr.out) (blk_below BKo.out HBr.out) (blk_below BKl.out HBr.out) (blk_below BKp.out HBr.out) (Kd.R_below HO.out HBr.out) (Kd.R_lower H61.out hszr) HP.out).mono ?_
                    · exact below_then HB.out hszr HBr.out
                    rintro e w9 ⟨rfl, v9_, hbo9, HO9, HB9, hk9, hat9⟩
                    refine ⟨_, rfl, ?_⟩
                    refine hK.out _ _ ?_
                    clear hK K
                    refine norm_ (a' := ?_) ?_ ?_
                    rotate_left
                    · show Act.put _ (some 63) _ = _
                      simp only [Act.put, List.setIfInBounds_toArray, List.set_cons_zero, List.set_cons_succ, i64_w, i32_w]
                      rfl
                    refine done_ (by kernel_rfl) ?_
                    try go_wp2
                    go_roundg kq
                    case measure => have := HK1.out; omega
                    case rel => exact ⟨wrap64 (x9 + 1), o3, v9_, (by first | rfl | (simp; done) | (simp [*]; done)), H', ⟨by have := HK1.out; omega⟩, ⟨hbo9⟩, ⟨HO9⟩, ⟨HB9⟩, ⟨HKB.out.trans ((KeepBut.of_below HBr.out go vr.ownBlock).trans hk9 (Or.inl rfl)) HAT.out⟩, ⟨by
                      rcases hat9 with e9 | ⟨b, e9, hb_⟩
                      · rw [e9]; exact HAT.out
                      · exact Or.inr ⟨b, e9, Nat.le_trans HKB.out.1 (Nat.le_trans HBr.out.size hb_)⟩⟩⟩
                · rw [if_neg c8] at H
                  exact absurd H (by simp)
              · rw [if_neg c7] at H
                have c7b : decide (x9 < D) = false := decide_eq_false c7
                clear c7
                obtain rfl := Option.some.inj H
                go_wp2
                (try simp only [Exit.inBlock, Exit.then]); (first | refine bodyPost_ret (results_none rfl _ _ _) rfl ?_ | refine bodyPost_end (results_none rfl _ _ _) rfl ?_)
                exact ⟨rfl, vr, BKo.out, HO.out, HB.out, HKB.out, HAT.out⟩
        · rw [if_neg c3] at h; exact absurd h (by simp)
      · rw [if_neg c2] at h; exact absurd h (by simp)
    · rw [if_neg c1] at h
      have c1d : word = [] := List.length_eq_zero_iff.mp (by omega)
      have H' := Aside0.mk h
      clear h c1
      subst c1d
      have c0z : ((0 : Int) == W) = false := c0b
      go_enter Try.func67, Try.ntmps67
      go_wp2
      go_loopg [9] k (fun kq v9 w' => ∃ (x9 : Int) (x3 : List ByteArray) (vr : Value), v9 = .int .i64 x9 ∧ Aside0 (impl_Lock_least.rep kq W D x3 ([] : List Int) p 0 x9 = some r) ∧ Aside0 (kq ≤ k) ∧ Aside0 (w'.heap[go]? = some (.cells #[vr] 31 (0, 0))) ∧ Aside0 (Kd.R Kd.string 9 w' w0.heap.size (fun _ => True) vr x3) ∧ Aside0 (Below w0.heap.size w0 w') ∧ Aside0 (KeepBut w w' go vo.ownBlock) ∧ Aside0 (vr.ownBlock = vo.ownBlock ∨ ∃ b, vr.ownBlock = some b ∧ w.heap.size ≤ b))
      case atStart => exact ⟨0, out, vo, (by first | rfl | (simp; done) | (simp [*]; done)), H', ⟨Nat.le_refl _⟩, BKo, HO, HB, ⟨KeepBut.refl _ _ _⟩, ⟨Or.inl rfl⟩⟩
      case round =>
        clear H'
        try clear p2
        obtain ⟨x9, x3, vr, rfl, HA, HK1, BKr, HOr, HBw, HKB, HAT⟩ := hrel
        replace BKw := Aside0.mk (KeepBut.blk HKB.out BKw.out (blk_ne BKw.out BKo.out (by decide)) (Kd.R_ne HO.out BKw.out (by decide)))
        replace BKl := Aside0.mk (KeepBut.blk HKB.out BKl.out (blk_ne BKl.out BKo.out (by decide)) (Kd.R_ne HO.out BKl.out (by decide)))
        replace BKp := Aside0.mk (KeepBut.blk HKB.out BKp.out (blk_ne BKp.out BKo.out (by decide)) (Kd.R_ne HO.out BKp.out (by decide)))
        replace HW := Aside0.mk (impl_Lock_least.keepW HW.out BKo.out HO.out HKB.out)
        replace BKo := BKr
        replace HO := HOr
        replace HB := HBw
        clear BKr HOr HBw
        have hszr : w0.heap.size ≤ wr.heap.size := HB.out.size
        have hzl : wr.cell? ⟨gl, 1, none⟩ = some (.int .i64 D) := (blk_cell BKl.out 1).trans rfl
        cases gk with
        | zero => exact absurd HA.out (by simp [impl_Lock_least.rep])
        | succ kq =>
          have H := HA.out
          clear HA
          simp only [impl_Lock_least.rep] at H
          by_cases c7 : x9 < D
          · rw [if_pos c7] at H
            have c7b : decide (x9 < D) = true := decide_eq_true c7
            clear c7
            by_cases c8 : ([] : List Int).length < 17592186044000
            · rw [if_pos c8] at H
              have LM := Aside0.mk c8
              clear c8
              obtain ⟨o3, HP, H⟩ := Option.bind_eq_some_iff.mp H
              replace HP : impl_Lock_least.put kq W D x3 (([] : List Int) ++ [x9]) 1 = some o3 := by first | exact HP | (rw [if_pos (show ((([] : List Int).length : Nat) : Int) = 0 from rfl), show wrap64 ((([] : List Int).length : Nat) + 1 : Int) = 1 from by simp [wrap64]] at HP; exact HP)
              obtain ⟨y61, hy61⟩ : ∃ y_ : List Int, y_ = ([] : List Int) ++ [x9] := ⟨_, rfl⟩
              rw [← hy61] at HP
              have NY := Aside0.mk hy61
              clear hy61
              replace HP := Aside0.mk HP
              have H' := Aside0.mk H
              clear H
              go_wp2
              refine start_ (n := 9) (S := fun w' => w'.cell? ⟨gp, 0, none⟩ = some (.func (.func 67) #[] #[.pointer (some ⟨gw, 0, none⟩), .pointer (some ⟨go, 0, none⟩), .pointer (some ⟨gl, 0, none⟩), .pointer (some ⟨gp, 0, none⟩)])) (ds := [8]) #[false, false, false, false, false, false, false, false, false] (by kernel_rfl) rfl rfl (((blk_cell BKp.out 0).trans rfl)) (fun hHeld => ?_)
              have HBr := Aside0.mk (below_drew1 (Below.refl wr.heap.size wr))
              generalize wr.drew = wd at HBr hHeld ⊢
              refine pure_ (i := 2) (N := some 57) (v := ?_) (a' := ?_) #[false, false, true, false, false, false, false, false, false] rfl rfl (by kernel_rfl) (fun _ _ _ h => h) (Or.inl ⟨by rfl, ?_⟩) ?_ ?_
              rotate_left
              · intro w'
                go_simp
                with_reducible rfl
              rotate_left
              · simp only [Act.put, List.setIfInBounds_toArray, List.set_cons_zero, List.set_cons_succ, i64_w, i32_w]
                rfl
              refine pure_ (i := 4) (N := some 59) (v := ?_) (a' := ?_) #[false, false, true, false, true, false, false, false, false] rfl rfl (by kernel_rfl) (fun _ _ _ h => h) (Or.inl ⟨by rfl, ?_⟩) ?_ ?_
              rotate_left
              · intro w'
                go_simp
                with_reducible rfl
              rotate_left
              · simp only [Act.put, List.setIfInBounds_toArray, List.set_cons_zero, List.set_cons_succ, i64_w, i32_w]
                rfl
              refine pure_ (i := 7) (N := some 62) (v := ?_) (a' := ?_) #[false, false, true, false, true, false, false, true, false] rfl rfl (by kernel_rfl) (fun _ _ _ h => h) (Or.inl ⟨by rfl, ?_⟩) ?_ ?_
              rotate_left
              · intro w'
                go_simp
                with_reducible rfl
              rotate_left
              · simp only [Act.put, List.setIfInBounds_toArray, List.set_cons_zero, List.set_cons_succ, i64_w, i32_w]
                rfl
              refine take_ (i := 0) (N := some 55) (v := ?_) (a' := ?_) #[true, false, true, false, true, false, false, true, false] rfl rfl (by kernel_rfl) (fun _ _ _ h => h) (Or.inl ⟨by rfl, ?_⟩) hHeld ?_ ?_
              rotate_left
              · intro w' s0
                go_simp
                with_reducible rfl
              rotate_left
              · simp only [Act.put, List.setIfInBounds_toArray, List.set_cons_zero, List.set_cons_succ, i64_w, i32_w]
                rfl
              refine join_ (σ := Value × Value × Value) 2 #[true, true, true, true, true, true, false, true, false] (fun s => [(56, s.1), (58, s.2.1), (60, s.2.2)]) (fun s w' => Kd.R (Kd.int .i64) 3 w' wr.heap.size (fun k_ => some k_ ≠ s.2.2.ownBlock) s.2.1 ([] : List Int) ∧ Kd.R (Kd.int .i64) 3 w' wr.heap.size (fun k_ => some k_ ≠ s.2.1.ownBlock) s.2.2 [x9] ∧ Below wr.heap.size wr w') ?_ ?_
              rotate_left
              · intro hCont
                refine two_ (i := 1) (j := 5) (Ni := some 56) (Nj := some 60) #[true, true, true, false, true, false, false, true, false] #[true, false, true, false, true, true, false, true, false] rfl rfl rfl rfl (by kernel_rfl) (by decide) (by decide) (fun K hK => ?_) (fun K hK => ?_)
                · skip
                  refine Kd.R_lit_step (Kd.int .i64) _ 3 ?hg (N := 56) ?hd (xs := ([] : List Int)) (inner := []) (ok := fun _ => True) (okp := fun _ => True) ?hr ?hp (fun _ hk => hk) trivial (Below.refl _ _) (Nat.le_refl _) (by simp) ?_; (case hd => rfl); (case hg => rfl); (case hr => first | (go_simp; done) | (go_simp; rfl)); (case hp => exact Reps.none _ _)
                  intro v56 w56 ho hb hg_ hnew_
                  clear hg_ hnew_
                  have H56 := Aside0.mk (Kd.R_lower ho HBr.out.size)
                  replace HBr := Aside0.mk (below_step HBr.out hb)
                  clear hb ho
                  refine hK.out _ _ (((blk_cell (blk_below BKp.out HBr.out) 0).trans rfl)) (fun hHeld => ?_)
                  clear hK K
                  refine norm_ (a' := ?_) ?_ ?_
                  rotate_left
                  · show Act.put _ (some 56) _ = _
                    simp only [Act.put, List.setIfInBounds_toArray, List.set_cons_zero, List.set_cons_succ, i64_w, i32_w]
                    rfl
                  refine two_ (i := 3) (j := 5) (Ni := some 58) (Nj := some 60) #[true, true, true, true, true, false, false, true, false] #[true, true, true, false, true, true, false, true, false] rfl rfl rfl rfl (by kernel_rfl) (by decide) (by decide) (fun K hK => ?_) (fun K hK => ?_)
                  · skip
                    refine Kd.R_append_rows_step (Kd.int .i64) (w0 := wr) wr.heap.size (by rfl) (.tmp 56) (.tmp 57) 50 3 (.int .i64 0) 8 rfl Try.underlying50 info3 rfl (by decide) (by omega) v56 [] ([] : List Int) _ _ _ (fun _ => True) (fun _ => False) rfl rfl ?aO ?aR (fun _ _ h => h) (fun _ h => h.elim) ?aF ?aB ?aS ?aL ?_
                    (case aR => exact (Kd.R_reads' (Kd.R_below HW.out HBr.out)).2.2)
                    (case aB => exact HBr.out)
                    (case aF => exact (fun _ _ => trivial))
                    (case aO => exact H56.out)
                    (case aS => exact HBr.out.size)
                    (case aL => have := LM.out; simp only [List.length_nil]; omega)
                    intro v58 w58 ho hb hg hat
                    replace ho : Kd.R (Kd.int .i64) 3 w58 wr.heap.size (fun _ => True) v58 ([] : List Int) := ho
                    have H58 := Aside0.mk ho
                    clear H56
                    replace HBr := Aside0.mk hb
                    clear ho hb hg hat
                    refine hK.out _ _ (((blk_cell (blk_below BKp.out HBr.out) 0).trans rfl)) (fun hHeld => ?_)
                    clear hK K
                    refine norm_ (a' := ?_) ?_ ?_
                    rotate_left
                    · show Act.put _ (some 58) _ = _
                      simp only [Act.put, List.setIfInBounds_toArray, List.set_cons_zero, List.set_cons_succ, i64_w, i32_w]
                      rfl
                    refine one_ (i := 5) (N := some 60) #[true, true, true, true, true, true, false, true, false] rfl rfl (by kernel_rfl) (by decide) (fun K hK => ?_)
                    refine Kd.R_lit_step (Kd.int .i64) _ 3 ?hg (N := 60) ?hd (xs := ([x9] : List Int)) (inner := [.int .i64 x9]) (ok := fun _ => True) (okp := fun _ => True) ?hr ?hp (fun _ hk => hk) trivial (Below.refl _ _) (Nat.le_refl _) (by simp) ?_; (case hd => rfl); (case hg => rfl); (case hr => first | (go_simp; done) | (go_simp; rfl)); (case hp => exact (Reps.one (show Kd.M (Kd.int .i64) _ _ _ x9 [.int .i64 x9] from rfl) (Reps.none _ _)))
                    intro v60 w60 ho hb hg_ hnew_
                    clear hg_ hnew_
                    have H60 := Aside0.mk (Kd.R_mono (Kd.R_lower (Kd.R_new' ho (Kd.R_lt H58.out)) HBr.out.size) (fun _ hk => hk.2))
                    replace H58 := Aside0.mk (Kd.R_mono (Kd.R_elder' H58.out (Kd.R_base ho) hb) (fun _ hk => hk.2))
                    replace HBr := Aside0.mk (below_step HBr.out hb)
                    clear hb ho
                    refine hK.out _ _ (((blk_cell (blk_below BKp.out HBr.out) 0).trans rfl)) (fun hHeld => ?_)
                    clear hK K
                    refine norm_ (a' := ?_) ?_ ?_
                    rotate_left
                    · show Act.put _ (some 60) _ = _
                      simp only [Act.put, List.setIfInBounds_toArray, List.set_cons_zero, List.set_cons_succ, i64_w, i32_w]
                      rfl
                    exact norm_ (by simp only [putAll, Act.put, List.setIfInBounds_toArray, List.set_cons_zero, List.set_cons_succ]) (hCont (v56, v58, v60) _ ⟨H58.out, H60.out, HBr.out⟩)
                  · skip
                    refine Kd.R_lit_step (Kd.int .i64) _ 3 ?hg (N := 60) ?hd (xs := ([x9] : List Int)) (inner := [.int .i64 x9]) (ok := fun _ => True) (okp := fun _ => True) ?hr ?hp (fun _ hk => hk) trivial (Below.refl _ _) (Nat.le_refl _) (by simp) ?_; (case hd => rfl); (case hg => rfl); (case hr => first | (go_simp; done) | (go_simp; rfl)); (case hp => exact (Reps.one (show Kd.M (Kd.int .i64) _ _ _ x9 [.int .i64 x9] from rfl) (Reps.none _ _)))
                    intro v60 w60 ho hb hg_ hnew_
                    clear hg_ hnew_
                    have H60 := Aside0.mk (Kd.R_mono (Kd.R_lower (Kd.R_new' ho (Kd.R_lt H56.out)) HBr.out.size) (fun _ hk => hk.2))
                    replace H56 := Aside0.mk (Kd.R_mono (Kd.R_elder' H56.out (Kd.R_base ho) hb) (fun _ hk => hk.2))
                    replace HBr := Aside0.mk (below_step HBr.out hb)
                    clear hb ho
                    refine hK.out _ _ (((blk_cell (blk_below BKp.out HBr.out) 0).trans rfl)) (fun hHeld => ?_)
                    clear hK K
                    refine norm_ (a' := ?_) ?_ ?_
                    rotate_left
                    · show Act.put _ (some 60) _ = _
                      simp only [Act.put, List.setIfInBounds_toArray, List.set_cons_zero, List.set_cons_succ, i64_w, i32_w]
                      rfl
                    refine one_ (i := 3) (N := some 58) #[true, true, true, true, true, true, false, true, false] rfl rfl (by kernel_rfl) (by decide) (fun K hK => ?_)
                    refine Kd.R_append_rows_step (Kd.int .i64) (w0 := wr) wr.heap.size (by rfl) (.tmp 56) (.tmp 57) 50 3 (.int .i64 0) 8 rfl Try.underlying50 info3 rfl (by decide) (by omega) v56 [] ([] : List Int) _ _ _ (fun k_ => some k_ ≠ (v60 : Value).ownBlock) (fun _ => False) rfl rfl ?aO ?aR (fun _ _ h => h) (fun _ h => h.elim) ?aF ?aB ?aS ?aL ?_
                    (case aR => exact (Kd.R_reads' (Kd.R_below HW.out HBr.out)).2.2)
                    (case aB => exact HBr.out)
                    (case aF => exact (fun k_ hk => Kd.fresh' (Kd.R_lt H60.out) k_ hk))
                    (case aO => exact H56.out)
                    (case aS => exact HBr.out.size)
                    (case aL => have := LM.out; simp only [List.length_nil]; omega)
                    intro v58 w58 ho hb hg hat
                    replace ho : Kd.R (Kd.int .i64) 3 w58 wr.heap.size (fun k_ => some k_ ≠ (v60 : Value).ownBlock) v58 ([] : List Int) := ho
                    replace H60 := Aside0.mk (Kd.R_mono (Kd.R_after (ok := fun _ => True) (Kd.R_mono H60.out (fun _ hk => ⟨trivial, hk⟩)) hg hat) (fun _ hk => hk.2))
                    have H58 := Aside0.mk ho
                    clear H56
                    replace HBr := Aside0.mk hb
                    clear ho hb hg hat
                    refine hK.out _ _ (((blk_cell (blk_below BKp.out HBr.out) 0).trans rfl)) (fun hHeld => ?_)
                    clear hK K
                    refine norm_ (a' := ?_) ?_ ?_
                    rotate_left
                    · show Act.put _ (some 58) _ = _
                      simp only [Act.put, List.setIfInBounds_toArray, List.set_cons_zero, List.set_cons_succ, i64_w, i32_w]
                      rfl
                    exact norm_ (by simp only [putAll, Act.put, List.setIfInBounds_toArray, List.set_cons_zero, List.set_cons_succ]) (hCont (v56, v58, v60) _ ⟨H58.out, H60.out, HBr.out⟩)
                · skip
                  refine Kd.R_lit_step (Kd.int .i64) _ 3 ?hg (N := 60) ?hd (xs := ([x9] : List Int)) (inner := [.int .i64 x9]) (ok := fun _ => True) (okp := fun _ => True) ?hr ?hp (fun _ hk => hk) trivial (Below.refl _ _) (Nat.le_refl _) (by simp) ?_; (case hd => rfl); (case hg => rfl); (case hr => first | (go_simp; done) | (go_simp; rfl)); (case hp => exact (Reps.one (show Kd.M (Kd.int .i64) _ _ _ x9 [.int .i64 x9] from rfl) (Reps.none _ _)))
                  intro v60 w60 ho hb hg_ hnew_
                  clear hg_ hnew_
                  have H60 := Aside0.mk (Kd.R_lower ho HBr.out.size)
                  replace HBr := Aside0.mk (below_step HBr.out hb)
                  clear hb ho
                  refine hK.out _ _ (((blk_cell (blk_below BKp.out HBr.out) 0).trans rfl)) (fun hHeld => ?_)
                  clear hK K
                  refine norm_ (a' := ?_) ?_ ?_
                  rotate_left
                  · show Act.put _ (some 60) _ = _
                    simp only [Act.put, List.setIfInBounds_toArray, List.set_cons_zero, List.set_cons_succ, i64_w, i32_w]
                    rfl
                  refine one_ (i := 1) (N := some 56) #[true, true, true, false, true, true, false, true, false] rfl rfl (by kernel_rfl) (by decide) (fun K hK => ?_)
                  refine Kd.R_lit_step (Kd.int .i64) _ 3 ?hg (N := 56) ?hd (xs := ([] : List Int)) (inner := []) (ok := fun _ => True) (okp := fun _ => True) ?hr ?hp (fun _ hk => hk) trivial (Below.refl _ _) (Nat.le_refl _) (by simp) ?_; (case hd => rfl); (case hg => rfl); (case hr => first | (go_simp; done) | (go_simp; rfl)); (case hp => exact Reps.none _ _)
                  intro v56 w56 ho hb hg_ hnew_
                  clear hg_ hnew_
                  have H56 := Aside0.mk (Kd.R_mono (Kd.R_lower (Kd.R_new' ho (Kd.R_lt H60.out)) HBr.out.size) (fun _ hk => hk.2))
                  replace H60 := Aside0.mk (Kd.R_mono (Kd.R_elder' H60.out (Kd.R_base ho) hb) (fun _ hk => hk.2))
                  replace HBr := Aside0.mk (below_step HBr.out hb)
                  clear hb ho
                  refine hK.out _ _ (((blk_cell (blk_below BKp.out HBr.out) 0).trans rfl)) (fun hHeld => ?_)
                  clear hK K
                  refine norm_ (a' := ?_) ?_ ?_
                  rotate_left
                  · show Act.put _ (some 56) _ = _
                    simp only [Act.put, List.setIfInBounds_toArray, List.set_cons_zero, List.set_cons_succ, i64_w, i32_w]
                    rfl
                  refine one_ (i := 3) (N := some 58) #[true, true, true, true, true, true, false, true, false] rfl rfl (by kernel_rfl) (by decide) (fun K hK => ?_)
                  refine Kd.R_append_rows_step (Kd.int .i64) (w0 := wr) wr.heap.size (by rfl) (.tmp 56) (.tmp 57) 50 3 (.int .i64 0) 8 rfl Try.underlying50 info3 rfl (by decide) (by omega) v56 [] ([] : List Int) _ _ _ (fun k_ => some k_ ≠ (v60 : Value).ownBlock) (fun _ => False) rfl rfl ?aO ?aR (fun _ _ h => h) (fun _ h => h.elim) ?aF ?aB ?aS ?aL ?_
                  (case aR => exact (Kd.R_reads' (Kd.R_below HW.out HBr.out)).2.2)
                  (case aB => exact HBr.out)
                  (case aF => exact (fun k_ hk => Kd.fresh' (Kd.R_lt H60.out) k_ hk))
                  (case aO => exact H56.out)
                  (case aS => exact HBr.out.size)
                  (case aL => have := LM.out; simp only [List.length_nil]; omega)
                  intro v58 w58 ho hb hg hat
                  replace ho : Kd.R (Kd.int .i64) 3 w58 wr.heap.size (fun k_ => some k_ ≠ (v60 : Value).ownBlock) v58 ([] : List Int) := ho
                  replace H60 := Aside0.mk (Kd.R_mono (Kd.R_after (ok := fun _ => True) (Kd.R_mono H60.out (fun _ hk => ⟨trivial, hk⟩)) hg hat) (fun _ hk => hk.2))
                  have H58 := Aside0.mk ho
                  clear H56
                  replace HBr := Aside0.mk hb
                  clear ho hb hg hat
                  refine hK.out _ _ (((blk_cell (blk_below BKp.out HBr.out) 0).trans rfl)) (fun hHeld => ?_)
                  clear hK K
                  refine norm_ (a' := ?_) ?_ ?_
                  rotate_left
                  · show Act.put _ (some 58) _ = _
                    simp only [Act.put, List.setIfInBounds_toArray, List.set_cons_zero, List.set_cons_succ, i64_w, i32_w]
                    rfl
                  exact norm_ (by simp only [putAll, Act.put, List.setIfInBounds_toArray, List.set_cons_zero, List.set_cons_succ]) (hCont (v56, v58, v60) _ ⟨H58.out, H60.out, HBr.out⟩)
              rintro ⟨v56, v58, v60⟩ w60 ⟨h0_, h1_, h2_⟩
              have H58 := Aside0.mk h0_
              have H60 := Aside0.mk h1_
              replace HBr := Aside0.mk h2_
              clear h0_ h1_ h2_
              have hHeld : w60.cell? ⟨gp, 0, none⟩ = some (.func (.func 67) #[] #[.pointer (some ⟨gw, 0, none⟩), .pointer (some ⟨go, 0, none⟩), .pointer (some ⟨gl, 0, none⟩), .pointer (some ⟨gp, 0, none⟩)]) := ((blk_cell (blk_below BKp.out HBr.out) 0).trans rfl)
              obtain ⟨A60, c60, e60⟩ := Kd.R_slice H60.out
              subst e60
              have e58_ : ∃ v_ : Value, v_ = v58 := ⟨_, rfl⟩
              refine norm_ (a' := ?_) ?_ ?_
              rotate_left
              · simp only [putAll, Act.put, List.setIfInBounds_toArray, List.set_cons_zero, List.set_cons_succ]
                rfl
              refine one_ (i := 6) (N := some 61) #[true, true, true, true, true, true, true, true, false] rfl rfl (by kernel_rfl) (by decide) (fun K hK => ?_)
              refine Kd.R_append_rows_step (Kd.int .i64) (w0 := wr) wr.heap.size (by rfl) (.tmp 58) (.tmp 60) 50 3 (.int .i64 0) 8 rfl Try.underlying50 info3 rfl (by decide) (by omega) v58 ([] : List Int) [x9] _ _ _ (fun k_ => some k_ ≠ (.slice A60 [x9].length c60 : Value).ownBlock) (fun _ => False) rfl rfl ?aO ?aR (fun _ _ h => h) (fun _ h => h.elim) ?aF ?aB ?aS ?aL ?_
              (case aR => exact (Kd.R_reads' H60.out).2.2)
              (case aB => exact HBr.out)
              (case aF => exact (fun k_ hk => Kd.fresh' (Kd.R_lt H60.out) k_ hk))
              (case aO => exact H58.out)
              (case aS => exact HBr.out.size)
              (case aL => have := LM.out; simp only [List.length_cons, List.length_nil]; omega)
              intro v61 w61 ho hb hg hat
              rw [← NY.out] at ho
              have H61 := Aside0.mk (Kd.R_mono (ok' := fun _ => True) ho (fun _ _ => trivial))
              replace HBr := Aside0.mk hb
              clear ho hb hg hat H58 H60
              obtain ⟨A61, c61, e61⟩ := Kd.R_slice H61.out
              subst e61
              refine hK.out _ _ (((blk_cell (blk_below BKp.out HBr.out) 0).trans rfl)) (fun hHeld => ?_)
              clear hK K
              refine norm_ (a' := ?_) ?_ ?_
              rotate_left
              · show Act.put _ (some 61) _ = _
                simp only [Act.put, List.setIfInBounds_toArray, List.set_cons_zero, List.set_cons_succ, i64_w, i32_w]
                rfl
              refine last_ (i := 8) (N := some 63) #[true, true, true, true, true, true, true, true, true] rfl rfl (by kernel_rfl) (by decide) (fun K hK => ?_)
              refine impl_Lock_least.goesC 55 #[.pointer (some ⟨gw, 0, none⟩), .pointer (some ⟨go, 0, none⟩), .pointer (some ⟨gl, 0, none⟩), .pointer (some ⟨gp, 0, none⟩)] #[.slice A61 y61.length c61, .int .i64 1] Try.func67 (by kernel_rfl) rfl (by rfl) rfl rfl rfl (by (try simp only [List.map_toArray, List.map_cons, List.map_nil]); first | done | rfl) ?_
              refine (ih kq (by have := HK1.out; omega) x3 y61 1 o3 _ vr A61 c61 ?_ (blk_below BKw.out HBr.out) (blk_below BKo.out HBr.out) (blk_below BKl.out HBr.out) (blk_below BKp.out HBr.out) (Kd.R_below HO.out HBr.out) (Kd.R_lower H61.out hszr) HP.out).mono ?_
              · exact below_then HB.out hszr HBr.out
              rintro e w9 ⟨rfl, v9_, hbo9, HO9, HB9, hk9, hat9⟩
              refine ⟨_, rfl, ?_⟩
              refine hK.out _ _ ?_
              clear hK K
              refine norm_ (a' := ?_) ?_ ?_
              rotate_left
              · show Act.put _ (some 63) _ = _
                simp only [Act.put, List.setIfInBounds_toArray, List.set_cons_zero, List.set_cons_succ, i64_w, i32_w]
                rfl
              refine done_ (by kernel_rfl) ?_
              try go_wp2
              go_roundg kq
              case measure => have := HK1.out; omega
              case rel => exact ⟨wrap64 (x9 + 1), o3, v9_, (by first | rfl | (simp; done) | (simp [*]; done)), H', ⟨by have := HK1.out; omega⟩, ⟨hbo9⟩, ⟨HO9⟩, ⟨HB9⟩, ⟨HKB.out.trans ((KeepBut.of_below HBr.out go vr.ownBlock).trans hk9 (Or.inl rfl)) HAT.out⟩, ⟨by
                rcases hat9 with e9 | ⟨b, e9, hb_⟩
                · rw [e9]; exact HAT.out
                · exact Or.inr ⟨b, e9, Nat.le_trans HKB.out.1 (Nat.le_trans HBr.out.size hb_)⟩⟩⟩
            · rw [if_neg c8] at H
              exact absurd H (by simp)
          · rw [if_neg c7] at H
            have c7b : decide (x9 < D) = false := decide_eq_false c7
            clear c7
            obtain rfl := Option.some.inj H
            go_wp2
            (try simp only [Exit.inBlock, Exit.then]); (first | refine bodyPost_ret (results_none rfl _ _ _) rfl ?_ | refine bodyPost_end (results_none rfl _ _ _) rfl ?_)
            exact ⟨rfl, vr, BKo.out, HO.out, HB.out, HKB.out, HAT.out⟩
set_option maxHeartbeats 8000000 in
set_option maxRecDepth 100000 in
theorem impl_Lock_least.calls (k : Nat) (a0_0 : Int) (a0_1 : Int) (a1 : Int) (r : List ByteArray) (w : World) (h : impl_Lock_least.f k a0_0 a0_1 a1 = some r) :
    Calls Try.prog 55 #[.agg #[.int .i64 a0_0, .int .i64 a0_1], .int .i64 a1] w fun e w' => ∃ v0_ : Value, e = .returned (v0_) ∧ Kd.R Kd.string 9 w' w.heap.size (fun _ => True) v0_ r ∧ Below w.heap.size w w' := by
  have HB := Aside0.mk (Below.refl w.heap.size w)
  have hu26 := Try.underlying26
  have hmf : ∀ (fn : Fn) (first cap : Array Value) (w : World), (Instr.makeFunc fn first cap).run Try.prog w = .ok (.func fn first cap) w := fun _ _ _ _ => rfl
  unfold impl_Lock_least.f at h
  have H := Aside0.mk h
  clear h
  go_enter Try.func55, Try.ntmps55
  go_wp2_with (first
    | ((with_reducible refine gate_dst (N := 2) rfl ?_); refine box_event ?hg (N := 2) ?hd (cs := #[.int .i64 a0_0, .int .i64 a0_1]) (t := 26) ?hr ?_; (case hd => rfl); (case hg => rfl); (case hr => first | (go_simp; done) | (go_simp; rfl)); intro gl hgl wl hbl hl; have BKl := Aside0.mk hbl; have GL := Aside0.mk hgl; replace HB := Aside0.mk (below_step HB.out hl); clear hbl hl hgl)
    | ((with_reducible refine gate_dst (N := 3) rfl ?_); refine box_event ?hg (N := 3) ?hd (cs := #[.int .i64 a1]) (t := 3) ?hr ?_; (case hd => rfl); (case hg => rfl); (case hr => first | (go_simp; done) | (go_simp; rfl)); intro gw hgw ww hbw hw; have BKw := Aside0.mk hbw; have GW := Aside0.mk hgw; replace HB := Aside0.mk (below_step HB.out hw); replace BKl := Aside0.mk (blk_below BKl.out hw); clear hbw hw hgw)
    | ((with_reducible refine gate_dst (N := 7) rfl ?_); refine Kd.R_lit Kd.string _ 9 ?hg (N := 7) ?hd (xs := ([] : List ByteArray)) (inner := []) (ok := fun _ => True) (okp := fun _ => True) ?hr ?hp (fun _ hk => hk) trivial (Below.refl _ _) (Nat.le_refl _) (by simp) ?_; (case hd => rfl); (case hg => rfl); (case hr => first | (go_simp; done) | (go_simp; rfl)); (case hp => exact (Reps.none _ _)); intro v7 w7 ho7 hb hg_ hnew_; clear hg_ hnew_; have HO := Aside0.mk (Kd.R_lower ho7 (below_size HB.out)); replace HB := Aside0.mk (below_step HB.out hb); replace BKl := Aside0.mk (blk_below BKl.out hb); replace BKw := Aside0.mk (blk_below BKw.out hb); obtain ⟨A7, c7, e7⟩ := Kd.R_slice ho7; subst e7; clear hb ho7)
    | ((with_reducible refine gate_dst (N := 5) rfl ?_); refine box_event ?hg (N := 5) ?hd (cs := #[.slice none 0 0]) (t := 31) ?hr ?_; (case hd => rfl); (case hg => rfl); (case hr => first | (go_simp; done) | (go_simp; rfl)); intro go hgo wo hbo ho; have BKo := Aside0.mk hbo; have GO := Aside0.mk (show w.heap.size ≤ go from by rw [hgo]; exact below_size HB.out); replace HB := Aside0.mk (below_step HB.out ho); replace BKl := Aside0.mk (blk_below BKl.out ho); replace BKw := Aside0.mk (blk_below BKw.out ho); replace HO := Aside0.mk (Kd.R_below HO.out ho); have hco : wo.cell? ⟨go, 0, none⟩ = some (.slice none 0 0) := (blk_cell hbo 0).trans rfl; have hfo := blk_frozen hbo 0; clear hbo ho hgo)
    | ((with_reducible refine gate_store (p := 5) rfl ?_); refine store_event (w1 := wo.setCell ⟨go, 0, none⟩ (.slice A7 0 c7)) rfl rfl rfl ?hr ?_; (case hr => first | (go_simp; done) | (go_simp; rfl)); intro w8 hw8; clear hco hfo; replace HB : Aside0 (Below w.heap.size w w8) := ⟨by rw [hw8]; exact below_set HB.out GO.out⟩; replace BKl : Aside0 (w8.heap[gl]? = some (.cells #[.int .i64 a0_0, .int .i64 a0_1] 26 (0, 0))) := ⟨by rw [hw8]; exact blk_far BKl.out (p := ⟨go, 0, none⟩) (blk_ne BKl.out BKo.out (by decide)) _⟩; replace BKw : Aside0 (w8.heap[gw]? = some (.cells #[.int .i64 a1] 3 (0, 0))) := ⟨by rw [hw8]; exact blk_far BKw.out (p := ⟨go, 0, none⟩) (blk_ne BKw.out BKo.out (by decide)) _⟩; replace HO : Aside0 (Kd.R Kd.string 9 w8 w.heap.size (fun _ => True) (.slice A7 0 c7) ([] : List ByteArray)) := ⟨by rw [hw8]; exact Kd.R_set HO.out BKo.out (by decide) 0 _⟩; replace BKo : Aside0 (w8.heap[go]? = some (.cells #[.slice A7 0 c7] 31 (0, 0))) := ⟨by rw [hw8]; exact blk_set BKo.out 0 _⟩; clear hw8)
    | ((with_reducible refine gate_dst (N := 6) rfl ?_); refine box_event ?hg (N := 6) ?hd (cs := #[.nilFunc]) (t := 77) ?hr ?_; (case hd => rfl); (case hg => rfl); (case hr => first | (go_simp; done) | (go_simp; rfl)); intro gp hgp wp hbp hp; have BKp := Aside0.mk hbp; have GP := Aside0.mk (show w.heap.size ≤ gp from by rw [hgp]; exact below_size HB.out); replace HB := Aside0.mk (below_step HB.out hp); replace BKl := Aside0.mk (blk_below BKl.out hp); replace BKw := Aside0.mk (blk_below BKw.out hp); replace BKo := Aside0.mk (blk_below BKo.out hp); replace HO := Aside0.mk (Kd.R_below HO.out hp); have hcp : wp.cell? ⟨gp, 0, none⟩ = some .nilFunc := (blk_cell hbp 0).trans rfl; have hfp := blk_frozen hbp 0; clear hbp hp hgp)
    | ((with_reducible refine gate_store (p := 6) rfl ?_); refine store_event (w1 := wp.setCell ⟨gp, 0, none⟩ (.func (.func 67) #[] #[.pointer (some ⟨gw, 0, none⟩), .pointer (some ⟨go, 0, none⟩), .pointer (some ⟨gl, 0, none⟩), .pointer (some ⟨gp, 0, none⟩)])) rfl rfl rfl ?hr ?_; (case hr => first | (go_simp; done) | (go_simp; rfl)); intro w9 hw9; clear hcp hfp; replace HB : Aside0 (Below w.heap.size w w9) := ⟨by rw [hw9]; exact below_set HB.out GP.out⟩; replace BKl : Aside0 (w9.heap[gl]? = some (.cells #[.int .i64 a0_0, .int .i64 a0_1] 26 (0, 0))) := ⟨by rw [hw9]; exact blk_far BKl.out (p := ⟨gp, 0, none⟩) (blk_ne BKl.out BKp.out (by decide)) _⟩; replace BKw : Aside0 (w9.heap[gw]? = some (.cells #[.int .i64 a1] 3 (0, 0))) := ⟨by rw [hw9]; exact blk_far BKw.out (p := ⟨gp, 0, none⟩) (blk_ne BKw.out BKp.out (by decide)) _⟩; replace BKo : Aside0 (w9.heap[go]? = some (.cells #[.slice A7 0 c7] 31 (0, 0))) := ⟨by rw [hw9]; exact blk_far BKo.out (p := ⟨gp, 0, none⟩) (blk_ne BKo.out BKp.out (by decide)) _⟩; replace HO : Aside0 (Kd.R Kd.string 9 w9 w.heap.size (fun _ => True) (.slice A7 0 c7) ([] : List ByteArray)) := ⟨by rw [hw9]; exact Kd.R_set HO.out BKp.out (by decide) 0 _⟩; replace BKp : Aside0 (w9.heap[gp]? = some (.cells #[(.func (.func 67) #[] #[.pointer (some ⟨gw, 0, none⟩), .pointer (some ⟨go, 0, none⟩), .pointer (some ⟨gl, 0, none⟩), .pointer (some ⟨gp, 0, none⟩)])] 77 (0, 0))) := ⟨by rw [hw9]; exact blk_set BKp.out 0 _⟩; clear hw9; have hcp : w9.cell? ⟨gp, 0, none⟩ = some (.func (.func 67) #[] #[.pointer (some ⟨gw, 0, none⟩), .pointer (some ⟨go, 0, none⟩), .pointer (some ⟨gl, 0, none⟩), .pointer (some ⟨gp, 0, none⟩)]) := (blk_cell BKp.out 0).trans rfl)
    | (go_at_call 67; have hc_ := impl_Lock_least.put_calls gw go gl gp a0_0 a1 a0_1 w GO.out k [] [] 1 r w9 (.slice A7 0 c7) none 0 HB.out BKw.out BKo.out BKl.out BKp.out HO.out (Kd.R_nil _ _ _ _ _) H.out; simp only [List.append_toArray, List.cons_append, List.nil_append] at hc_; refine hc_.mono ?_; clear hc_; rintro e w10 ⟨rfl, v10, hbo, HO', HB', hk, hat⟩; have hco10 : w10.cell? ⟨go, 0, none⟩ = some v10 := (blk_cell hbo 0).trans rfl; have HOX := Aside0.mk HO'; have HBX := Aside0.mk HB'; clear hbo HO' HB' hk hat))
  go_ret
  exact ⟨_, rfl, HOX.out, HBX.out⟩


/-! ### impl_Lock_ring: function 31 -/
def impl_Lock_ring.f (k : Nat) (a0_0 : Int) (a0_1 : Int) : Option (ByteArray) := (impl_Lock_least.f k a0_0 a0_1 a0_0).bind fun t176 => ((strings_Join.f t176 (⟨#[]⟩ : ByteArray)).bind fun t179 => (some t179))
theorem impl_Lock_ring.mono : ∀ a0 a1 k, LeO (impl_Lock_ring.f k a0 a1) (impl_Lock_ring.f (k + 1) a0 a1) := by
  intro a0 a1 k
  unfold impl_Lock_ring.f
  repeat' first
      | (with_reducible exact impl_Lock_least.mono _ _ _ _)
      | (with_reducible exact LeO.refl _)
      | (with_reducible exact LeO.none _)
      | (with_reducible refine LeO.ite ?_ ?_)
      | (with_reducible refine LeO.bind ?_ (fun _ => ?_))
      | exact impl_Lock_least.mono _ _ _ _
      | exact LeO.none _
      | refine LeO.ite ?_ ?_
      | refine LeO.bind ?_ (fun _ => ?_)
set_option maxHeartbeats 8000000 in
set_option maxRecDepth 100000 in
theorem impl_Lock_ring.calls (k : Nat) (a0_0 : Int) (a0_1 : Int) (r : ByteArray) (w : World) (h : impl_Lock_ring.f k a0_0 a0_1 = some r) :
    Calls Try.prog 31 #[.agg #[.int .i64 a0_0, .int .i64 a0_1]] w fun e w' => e = .returned (.string r) ∧ Below w.heap.size w w' := by
  have hu26 := Try.underlying26
  have HB := Aside0.mk (Below.refl w.heap.size w)
  have H : ((impl_Lock_least.f k a0_0 a0_1 a0_0).bind fun t176 => ((strings_Join.f t176 (⟨#[]⟩ : ByteArray)).bind fun t179 => (some t179))) = some r := h
  clear h
  replace H := Option.bind_eq_some_iff.mp H
  obtain ⟨t176, A20, H⟩ := H
  try dsimp only at H
  have A2 := Aside0.mk A20
  clear A20
  replace H := Option.bind_eq_some_iff.mp H
  obtain ⟨t179, A30, H⟩ := H
  try dsimp only at H
  have A3 := Aside0.mk A30
  clear A30
  obtain rfl := Option.some.inj H
  go_enter Try.func31, Try.ntmps31
  go_wp2_with (first | ((with_reducible refine gate_dst (N := 1) rfl ?_); refine box_event ?hg (N := 1) ?hd (cs := #[.int .i64 a0_0, .int .i64 a0_1]) (t := 26) ?hr ?_; (case hd => rfl); (case hg => rfl); (case hr => first | (go_simp; done) | (go_simp; rfl)); intro gb175 hg w4 hbox hb; have n0_ := bsx hb HB; have n1_ := Aside0.mk (hbox); have n2_ := gwx hg HB; have n3_ := n2_; clear HB; have HB := n0_; have BK175 := n1_; have GW175 := n2_; have GE175 := n3_; clear n0_ n1_ n2_ n3_; clear hb hbox hg; have hcz5_0 := cz0 BK175; have hcz5_1 := cz1 BK175; have hfz5_0 := blk_frozen BK175.out 0; have hfz5_1 := blk_frozen BK175.out 1) | ((with_reducible refine gate_callee (f := 55) rfl ?_); refine goesL_ (some 6) rfl rfl Try.func55 (by kernel_rfl) rfl #[.agg #[.int .i64 a0_0, .int .i64 a0_1], .int .i64 a0_0] rfl (by (try simp only [m_1, m_2, m_3]); first | done | rfl | (simp only [m_4, m_5]; rfl)) ?_; (with_reducible refine (impl_Lock_least.calls k a0_0 a0_1 a0_0 t176 _ A2.out).mono ?_); rintro e w6 ⟨v177, rfl, ho0, hb⟩; refine ⟨_, rfl, ?_⟩; have n0_ := Aside0.mk (Kd.R_lower ho0 (below_size (bB HB))); replace BK175 := bbx hb BK175; have n2_ := bsx hb HB; clear HB; have HO178 := n0_; have HB := n2_; clear n0_ n2_; (try clear hb); (try clear hb2); (try clear hk); (try clear hi); (try clear ho0); obtain ⟨Ao7, co7, eo7⟩ := Kd.R_slice HO178.out; subst eo7) | ((with_reducible refine gate_callee (f := 54) rfl ?_); refine goesL_ (some 7) rfl rfl Try.func54 (by kernel_rfl) rfl #[.slice Ao7 t176.length co7, .string (⟨#[]⟩ : ByteArray)] rfl (by (try simp only [m_1, m_2, m_3]); first | done | rfl | (simp only [m_4, m_5]; rfl)) ?_; (with_reducible refine (strings_Join.calls _ _ t176 (⟨#[]⟩ : ByteArray) t179 _ ?side1 ?side2 A3.out).mono ?_); (case side1 => repeat (first | exact (Kd.R_reads' HO178.out).2.2 | (with_reducible refine Kd.C_alloc ?_ _) | (with_reducible refine Kd.C_drewN ?_ _) | (with_reducible refine Kd.C_drew ?_))); (case side2 => exact (Kd.R_reads' HO178.out).2.1); rintro e w8 ⟨rfl, hb⟩; refine ⟨_, rfl, ?_⟩; have n0_ := Aside0.mk (Kd.R_below (by (with_reducible repeat (first | apply r_a | apply r_d | apply r_e)); exact HO178.out) hb); replace BK175 := bbx hb BK175; replace HB := bsx hb HB; clear HO178; have HO178 := n0_; clear n0_; (try clear hb); (try clear hb2); (try clear hk); (try clear hi)))
  go_ret
  exact ⟨by first | rfl | (simp [errW_none, errW_some] <;> rfl) | (simp [*, errW_none, errW_some] <;> rfl), bB HB⟩

/-! ### strings_Index: function 32 (a text of our own) -/
/-- The library's own variable that tells how long a text may be looked for at once: some whole number. -/
def strings_Index.Gl (w : World) : Prop := ∃ m, w.cell? ⟨0, 0, none⟩ = some (.int .i64 m)
theorem strings_Index.gl_below {w W : World} (h : strings_Index.Gl w) (hb : Below w.heap.size w W) : strings_Index.Gl W := by
  obtain ⟨m, hm⟩ := h
  exact ⟨m, (hb.cell (p := ⟨0, 0, none⟩) (World.block_lt_of_cell? _ _ hm)).trans hm⟩
theorem strings_Index.gl_shaped (w : World) (h : w.ShapedOpen Try.prog) : strings_Index.Gl w := Try.laysM143.s1_3 w h
def strings_Index.f (a0 : ByteArray) (a1 : ByteArray) : Option (Int) := if a0.size < 4294967281 then some (Lib.index a0.data.toList a1.data.toList) else none
theorem strings_Index.calls (a0 : ByteArray) (a1 : ByteArray) (r : Int) (w : World) (hG : strings_Index.Gl w) (h : strings_Index.f a0 a1 = some r) :
    Calls Try.prog 32 #[.string a0, .string a1] w fun e w' => e = .returned (.int .i64 r) ∧ Drawn0 w w' := by
  unfold strings_Index.f at h
  obtain ⟨m, hm⟩ := hG
  by_cases hs : a0.size < 4294967281
  · rw [if_pos hs] at h
    obtain rfl := Option.some.inj h
    exact (Try.strings_Index a0 a1 m w hs hm).mono fun e w' ⟨he, hw⟩ => ⟨he, by rw [hw]; exact Drawn0.refl _⟩
  · rw [if_neg hs] at h; exact absurd h (by simp)


end Go.Proofs.Ytmpcefcgboljkaa.P
