-- Texts of this session's own program (wip/dr.py), which runs the kit's printer.
import Derived.Test.YtmpcefcgboljkaaGreatPx0
import Derived.Test.YtmpcefcgboljkaaGreatPx1
import Derived.Test.YtmpcefcgboljkaaGreatPx22
import Derived.Test.YtmpcefcgboljkaaGreatPx66
import Derived.Test.YtmpcefcgboljkaaGreatPx103
import Derived.Test.YtmpcefcgboljkaaGreatPx113
namespace Go.Proofs.YtmpcefcgboljkaaGreat.P
open Go.RowKit Go.Proofs.YtmpcefcgboljkaaGreatW.PrintWords Go.Proofs.YtmpcefcgboljkaaGreatW.PrintLast Go.Proofs.YtmpcefcgboljkaaGreatW.PrintMore
attribute [local go_sem] max2_int min2_int max_two min_two max_three min_three max_four min_four   -- for this text's walks alone
set_option linter.unusedVariables false
set_option linter.unusedSimpArgs false

/-! ### spec_RaisedRing: function 39 -/
mutual
def spec_RaisedRing.j0 : Nat → ByteArray → Int → Bool → Int → Int → Option (ByteArray × Bool)
  | 0, _, _, _, _, _ => none
  | k + 1, x1, x2, x27, x706000, x706001 => if x27 = true then (some ((⟨#[]⟩ : ByteArray), false)) else ((spec_whDigits.f k x1).bind fun t709 => (spec_RaisedRing.l0 k x2 (⟨#[]⟩ : ByteArray) t709 (t709.length : Int) 0 x706000 x706001))
def spec_RaisedRing.l0 : Nat → Int → ByteArray → List Int → Int → Int → Int → Int → Option (ByteArray × Bool)
  | 0, _, _, _, _, _, _, _ => none
  | k + 1, x2, x8, x29, x30, x31, x706000, x706001 => if x31 < x30 then (if 0 ≤ x31 then (if x31 < (x29.length : Int) then (if x706001 = 0 then (none) else ((spec_l1Num.f k (Int.tmod (wrap64 ((rd x29 x31) + x2)) x706001)).bind fun t713 => (if x8.size + t713.size ≤ 9223372036854775807 then (spec_RaisedRing.l0 k x2 (x8 ++ t713) x29 x30 (wrap64 (x31 + 1)) x706000 x706001) else (none)))) else (none)) else (none)) else (some (x8, true))
end
def spec_RaisedRing.f (k : Nat) (a0_0 : Int) (a0_1 : Int) (a1 : ByteArray) (a2 : Int) : Option (ByteArray × Bool) := (spec_riGood.f k a0_0 a0_1).bind fun t706 => (if t706 = true then ((spec_riRing.f k a0_0 a0_1 a1).bind fun t707 => (if t707 = true then ((spec_l1In.f a2 0 (wrap64 (a0_1 - 1))).bind fun t708 => (spec_RaisedRing.j0 k a1 a2 (!t708) a0_0 a0_1)) else (spec_RaisedRing.j0 k a1 a2 true a0_0 a0_1))) else (spec_RaisedRing.j0 k a1 a2 true a0_0 a0_1))
theorem spec_RaisedRing.mono_l : ∀ k, (∀ y0 y1 y2 y3 y4, LeO (spec_RaisedRing.j0 k y0 y1 y2 y3 y4) (spec_RaisedRing.j0 (k + 1) y0 y1 y2 y3 y4)) ∧ (∀ y0 y1 y2 y3 y4 y5 y6, LeO (spec_RaisedRing.l0 k y0 y1 y2 y3 y4 y5 y6) (spec_RaisedRing.l0 (k + 1) y0 y1 y2 y3 y4 y5 y6))
  | 0 => ⟨fun _ _ _ _ _ r h => by simp [spec_RaisedRing.j0] at h, fun _ _ _ _ _ _ _ r h => by simp [spec_RaisedRing.l0] at h⟩
  | k + 1 => by
    obtain ⟨ih0, ih1⟩ := spec_RaisedRing.mono_l k
    refine ⟨?_, ?_⟩
    rotate_left
    · intro y0 y1 y2 y3 y4 y5 y6
      unfold spec_RaisedRing.l0
      repeat' first
      | (with_reducible exact ih0 _ _ _ _ _)
      | (with_reducible exact ih1 _ _ _ _ _ _ _)
      | (with_reducible exact spec_l1Num.mono _ _)
      | (with_reducible exact spec_riGood.mono _ _ _)
      | (with_reducible exact spec_riRing.mono _ _ _ _)
      | (with_reducible exact spec_whDigits.mono _ _)
      | (with_reducible exact LeO.refl _)
      | (with_reducible exact LeO.none _)
      | (with_reducible refine LeO.ite ?_ ?_)
      | (with_reducible refine LeO.bind ?_ (fun _ => ?_))
      | exact ih0 _ _ _ _ _
      | exact ih1 _ _ _ _ _ _ _
      | exact spec_l1Num.mono _ _
      | exact spec_riGood.mono _ _ _
      | exact spec_riRing.mono _ _ _ _
      | exact spec_whDigits.mono _ _
      | exact LeO.none _
      | refine LeO.ite ?_ ?_
      | refine LeO.bind ?_ (fun _ => ?_)
    intro y0 y1 y2 y3 y4
    unfold spec_RaisedRing.j0
    repeat' first
    | (with_reducible exact ih0 _ _ _ _ _)
    | (with_reducible exact ih1 _ _ _ _ _ _ _)
    | (with_reducible exact spec_l1Num.mono _ _)
    | (with_reducible exact spec_riGood.mono _ _ _)
    | (with_reducible exact spec_riRing.mono _ _ _ _)
    | (with_reducible exact spec_whDigits.mono _ _)
    | (with_reducible exact LeO.refl _)
    | (with_reducible exact LeO.none _)
    | (with_reducible refine LeO.ite ?_ ?_)
    | (with_reducible refine LeO.bind ?_ (fun _ => ?_))
    | exact ih0 _ _ _ _ _
    | exact ih1 _ _ _ _ _ _ _
    | exact spec_l1Num.mono _ _
    | exact spec_riGood.mono _ _ _
    | exact spec_riRing.mono _ _ _ _
    | exact spec_whDigits.mono _ _
    | exact LeO.none _
    | refine LeO.ite ?_ ?_
    | refine LeO.bind ?_ (fun _ => ?_)
theorem spec_RaisedRing.mono : ∀ a0 a1 a2 a3 k, LeO (spec_RaisedRing.f k a0 a1 a2 a3) (spec_RaisedRing.f (k + 1) a0 a1 a2 a3) := by
  intro a0 a1 a2 a3 k
  obtain ⟨ih0, ih1⟩ := spec_RaisedRing.mono_l k
  unfold spec_RaisedRing.f
  repeat' first
      | (with_reducible exact ih0 _ _ _ _ _)
      | (with_reducible exact ih1 _ _ _ _ _ _ _)
      | (with_reducible exact spec_l1Num.mono _ _)
      | (with_reducible exact spec_riGood.mono _ _ _)
      | (with_reducible exact spec_riRing.mono _ _ _ _)
      | (with_reducible exact spec_whDigits.mono _ _)
      | (with_reducible exact LeO.refl _)
      | (with_reducible exact LeO.none _)
      | (with_reducible refine LeO.ite ?_ ?_)
      | (with_reducible refine LeO.bind ?_ (fun _ => ?_))
      | exact ih0 _ _ _ _ _
      | exact ih1 _ _ _ _ _ _ _
      | exact spec_l1Num.mono _ _
      | exact spec_riGood.mono _ _ _
      | exact spec_riRing.mono _ _ _ _
      | exact spec_whDigits.mono _ _
      | exact LeO.none _
      | refine LeO.ite ?_ ?_
      | refine LeO.bind ?_ (fun _ => ?_)
set_option maxHeartbeats 8000000 in
set_option maxRecDepth 100000 in
theorem spec_RaisedRing.calls (k : Nat) (a0_0 : Int) (a0_1 : Int) (a1 : ByteArray) (a2 : Int) (r1 : ByteArray) (r2 : Bool) (w : World) (h : spec_RaisedRing.f k a0_0 a0_1 a1 a2 = some (r1, r2)) :
    Calls Tryz.prog 39 #[.agg #[.int .i64 a0_0, .int .i64 a0_1], .string a1, .int .i64 a2] w fun e w' => e = .returned (.tuple #[.string r1, .bool r2]) ∧ Below w.heap.size w w' := by
  have hu23 := Tryz.underlying23
  have HB := Aside0.mk (Below.refl w.heap.size w)
  have H : ((spec_riGood.f k a0_0 a0_1).bind fun t706 => (if t706 = true then ((spec_riRing.f k a0_0 a0_1 a1).bind fun t707 => (if t707 = true then ((spec_l1In.f a2 0 (wrap64 (a0_1 - 1))).bind fun t708 => (spec_RaisedRing.j0 k a1 a2 (!t708) a0_0 a0_1)) else (spec_RaisedRing.j0 k a1 a2 true a0_0 a0_1))) else (spec_RaisedRing.j0 k a1 a2 true a0_0 a0_1))) = some (r1, r2) := h
  clear h
  have HC4 := Aside0.mk H
  clear H
  go_enter Tryz.func39, Tryz.ntmps39
  go_upto_region 1 with (first | ((with_reducible refine gate_dst (N := 3) rfl ?_); refine box_event ?hg (N := 3) ?hd (cs := #[.int .i64 a0_0, .int .i64 a0_1]) (t := 23) ?hr ?_; (case hd => rfl); (case hg => rfl); (case hr => first | (go_simp; done) | (go_simp; rfl)); intro gb705 hg w5 hbox hb; have n0_ := bsx hb HB; have n1_ := Aside0.mk (hbox); have n2_ := gwx hg HB; have n3_ := n2_; clear HB; have HB := n0_; have BK705 := n1_; have GW705 := n2_; have GE705 := n3_; clear n0_ n1_ n2_ n3_; clear hb hbox hg))
  (try simp only [Act.put, s_1, s_2, s_3])
  go_cut [27] (fun v27 wc => ∃ (kq : Nat) (x27_3 : Bool), v27 = .bool x27_3 ∧ Aside0 (spec_RaisedRing.j0 kq a1 a2 x27_3 a0_0 a0_1 = some (r1, r2)) ∧ Aside0 (kq ≤ k) ∧ Aside0 (wc.heap[gb705]? = some (.cells #[.int .i64 a0_0, .int .i64 a0_1] 23 (0, 0))) ∧ Aside0 (Below w.heap.size w wc))
  case first =>
    have H := HC4.out
    clear HC4
    replace H := Option.bind_eq_some_iff.mp H
    obtain ⟨t706, A60, H⟩ := H
    try dsimp only at H
    have A6 := Aside0.mk A60
    clear A60
    by_cases c7 : t706 = true
    rotate_left
    · replace c7 := Bool.eq_false_iff.mpr c7
      subst c7
      rw [if_neg (show ¬ (false = true) by decide)] at H
      have H' := Aside0.mk H
      clear H
      have hcz20_0 := cz0 BK705
      have hcz20_1 := cz1 BK705
      have hfz20_0 := blk_frozen BK705.out 0
      have hfz20_1 := blk_frozen BK705.out 1
      go_wp2_with (first | ((with_reducible refine gate_callee (f := 52) rfl ?_); refine goesL_ (some 12) rfl rfl Tryz.func52 (by kernel_rfl) rfl #[.agg #[.int .i64 a0_0, .int .i64 a0_1]] rfl (by (try simp only [m_1, m_2, m_3]); first | done | rfl | (simp only [m_4, m_5]; rfl)) ?_; (with_reducible refine (spec_riGood.calls k a0_0 a0_1 false _ A6.out).mono ?_); rintro e w21 ⟨rfl, hb⟩; refine ⟨_, rfl, ?_⟩; replace BK705 := bbx hb BK705; replace HB := bsx hb HB; skip; (try clear hb); (try clear hb2); (try clear hk); (try clear hi)))
      go_meet
      case rel => exact ⟨_, (true), (by first | rfl | (simp; done) | (simp [*]; done)), H', ⟨by first | omega | exact Nat.le_refl _⟩, ⟨bK BK705⟩, ⟨bB HB⟩⟩
    subst c7
    rw [if_pos rfl] at H
    replace H := Option.bind_eq_some_iff.mp H
    obtain ⟨t707, A80, H⟩ := H
    try dsimp only at H
    have A8 := Aside0.mk A80
    clear A80
    by_cases c9 : t707 = true
    rotate_left
    · replace c9 := Bool.eq_false_iff.mpr c9
      subst c9
      rw [if_neg (show ¬ (false = true) by decide)] at H
      have H' := Aside0.mk H
      clear H
      have hcz16_0 := cz0 BK705
      have hcz16_1 := cz1 BK705
      have hfz16_0 := blk_frozen BK705.out 0
      have hfz16_1 := blk_frozen BK705.out 1
      go_wp2_with (first | ((with_reducible refine gate_callee (f := 52) rfl ?_); refine goesL_ (some 12) rfl rfl Tryz.func52 (by kernel_rfl) rfl #[.agg #[.int .i64 a0_0, .int .i64 a0_1]] rfl (by (try simp only [m_1, m_2, m_3]); first | done | rfl | (simp only [m_4, m_5]; rfl)) ?_; (with_reducible refine (spec_riGood.calls k a0_0 a0_1 true _ A6.out).mono ?_); rintro e w17 ⟨rfl, hb⟩; refine ⟨_, rfl, ?_⟩; replace BK705 := bbx hb BK705; replace HB := bsx hb HB; skip; (try clear hb); (try clear hb2); (try clear hk); (try clear hi); have hcz18_0 := cz0 BK705; have hcz18_1 := cz1 BK705; have hfz18_0 := blk_frozen BK705.out 0; have hfz18_1 := blk_frozen BK705.out 1) | (go_at_call 83; (with_reducible refine (spec_riRing.calls k a0_0 a0_1 a1 false _ A8.out).mono ?_); rintro e w19 ⟨rfl, hb⟩; replace BK705 := bbx hb BK705; replace HB := bsx hb HB; skip; (try clear hb); (try clear hb2); (try clear hk); (try clear hi)))
      go_meet
      case rel => exact ⟨_, (true), (by first | rfl | (simp; done) | (simp [*]; done)), H', ⟨by first | omega | exact Nat.le_refl _⟩, ⟨bK BK705⟩, ⟨bB HB⟩⟩
    subst c9
    rw [if_pos rfl] at H
    replace H := Option.bind_eq_some_iff.mp H
    obtain ⟨t708, A100, H⟩ := H
    try dsimp only at H
    have A10 := Aside0.mk A100
    clear A100
    have H' := Aside0.mk H
    clear H
    have hcz11_0 := cz0 BK705
    have hcz11_1 := cz1 BK705
    have hfz11_0 := blk_frozen BK705.out 0
    have hfz11_1 := blk_frozen BK705.out 1
    go_wp2_with (first | ((with_reducible refine gate_callee (f := 52) rfl ?_); refine goesL_ (some 12) rfl rfl Tryz.func52 (by kernel_rfl) rfl #[.agg #[.int .i64 a0_0, .int .i64 a0_1]] rfl (by (try simp only [m_1, m_2, m_3]); first | done | rfl | (simp only [m_4, m_5]; rfl)) ?_; (with_reducible refine (spec_riGood.calls k a0_0 a0_1 true _ A6.out).mono ?_); rintro e w12 ⟨rfl, hb⟩; refine ⟨_, rfl, ?_⟩; replace BK705 := bbx hb BK705; replace HB := bsx hb HB; skip; (try clear hb); (try clear hb2); (try clear hk); (try clear hi); have hcz13_0 := cz0 BK705; have hcz13_1 := cz1 BK705; have hfz13_0 := blk_frozen BK705.out 0; have hfz13_1 := blk_frozen BK705.out 1) | (go_at_call 83; (with_reducible refine (spec_riRing.calls k a0_0 a0_1 a1 true _ A8.out).mono ?_); rintro e w14 ⟨rfl, hb⟩; replace BK705 := bbx hb BK705; replace HB := bsx hb HB; skip; (try clear hb); (try clear hb2); (try clear hk); (try clear hi); have hcz15_0 := cz0 BK705; have hcz15_1 := cz1 BK705; have hfz15_0 := blk_frozen BK705.out 0; have hfz15_1 := blk_frozen BK705.out 1) | (go_at_call 73; (with_reducible refine (spec_l1In.calls a2 0 (wrap64 (a0_1 - 1)) t708 _ A10.out).mono ?_); rintro e w' ⟨rfl, ⟨nd, rfl⟩⟩))
    go_meet
    case rel => exact ⟨_, (!t708), (by first | rfl | (simp; done) | (simp [*]; done)), H', ⟨by first | omega | exact Nat.le_refl _⟩, ⟨bK BK705⟩, ⟨bB HB⟩⟩
  clear HC4
  obtain ⟨kq, x27_3, rfl, HA, HJ3, BK705, HB⟩ := hcut
  rcases kq with _ | kj3
  · exact absurd HA.out (by simp [spec_RaisedRing.j0])
  have H := HA.out
  clear HA
  simp only [spec_RaisedRing.j0] at H
  by_cases c22 : x27_3 = true
  · subst c22
    rw [if_pos rfl] at H
    simp only [Option.some.injEq, Prod.mk.injEq] at H
    obtain ⟨rfl, rfl⟩ := H
    go_wp2
    go_ret2
    exact ⟨by first | rfl | (simp [errW_none, errW_some] <;> rfl) | (simp [*, errW_none, errW_some] <;> rfl), bB HB⟩
  replace c22 := Bool.eq_false_iff.mpr c22
  subst c22
  rw [if_neg (show ¬ (false = true) by decide)] at H
  replace H := Option.bind_eq_some_iff.mp H
  obtain ⟨t709, A230, H⟩ := H
  try dsimp only at H
  have A23 := Aside0.mk A230
  clear A230
  have H' := Aside0.mk H
  clear H
  go_wp2_with (first | ((with_reducible refine gate_callee (f := 56) rfl ?_); refine goesL_ (some 29) rfl rfl Tryz.func56 (by kernel_rfl) rfl #[.string a1] rfl (by (try simp only [m_1, m_2, m_3]); first | done | rfl | (simp only [m_4, m_5]; rfl)) ?_; (with_reducible refine (spec_whDigits.calls kj3 a1 t709 _ A23.out).mono ?_); rintro e w24 ⟨v710, rfl, ho0, hb⟩; refine ⟨_, rfl, ?_⟩; have n0_ := Aside0.mk (Kd.R_lower ho0 (below_size (bB HB))); replace BK705 := bbx hb BK705; have n2_ := bsx hb HB; clear HB; have HO711 := n0_; have HB := n2_; clear n0_ n2_; (try clear hb); (try clear hb2); (try clear hk); (try clear hi); (try clear ho0); obtain ⟨Ao25, co25, eo25⟩ := Kd.R_slice HO711.out; subst eo25))
  go_loopg [8, 31] kj3 (fun kq v8 v31 w' => ∃ (x8_2 : ByteArray) (x31_2 : Int), v8 = .string x8_2 ∧ v31 = .int .i64 x31_2 ∧ Aside0 (spec_RaisedRing.l0 kq a2 x8_2 t709 (t709.length : Int) x31_2 a0_0 a0_1 = some (r1, r2)) ∧ Aside0 (kq ≤ kj3) ∧ Aside0 (Kd.R (Kd.int .i64) 3 w' w.heap.size (fun _ => True) (.slice Ao25 t709.length co25) t709) ∧ Aside0 (w'.heap[gb705]? = some (.cells #[.int .i64 a0_0, .int .i64 a0_1] 23 (0, 0))) ∧ Aside0 (Below w.heap.size w w'))
  case atStart => refine ⟨((⟨#[]⟩ : ByteArray)), (0), (by first | rfl | (simp; done) | (simp [*]; done)), (by first | rfl | (simp; done) | (simp [*]; done)), H', ⟨Nat.le_refl _⟩, ⟨?_⟩, ⟨?_⟩, ⟨bB HB⟩⟩ <;> (with_reducible repeat (first | refine g_d ?_ _ | refine g_e ?_ | refine g_a ?_ _ | apply r_a | apply r_d | apply r_e)) <;> first | exact BK705.out | exact HO711.out
  clear H'
  try clear c22
  obtain ⟨x8_2, x31_2, rfl, rfl, HA, HK2, HO_29, BK705, HB⟩ := hrel
  rcases gk with _ | k2
  · exact absurd HA.out (by simp [spec_RaisedRing.l0])
  have H := HA.out
  clear HA
  simp only [spec_RaisedRing.l0] at H
  by_cases c26 : x31_2 < (t709.length : Int)
  rotate_left
  · rw [if_neg c26] at H
    have c26b0 : decide (x31_2 < (t709.length : Int)) = false := decide_eq_false c26
    clear c26
    simp only [Option.some.injEq, Prod.mk.injEq] at H
    obtain ⟨rfl, rfl⟩ := H
    go_wp2
    go_ret2
    exact ⟨by first | rfl | (simp [errW_none, errW_some] <;> rfl) | (simp [*, errW_none, errW_some] <;> rfl), bB HB⟩

  rw [if_pos c26] at H
  have c26b0 : decide (x31_2 < (t709.length : Int)) = true := decide_eq_true c26
  clear c26
  by_cases c27 : 0 ≤ x31_2
  rotate_left
  · rw [if_neg c27] at H
    exact absurd H (by simp)
  rw [if_pos c27] at H
  have c27b0 : decide (0 ≤ x31_2) = true := decide_eq_true c27
  clear c27
  by_cases c28 : x31_2 < (t709.length : Int)
  rotate_left
  · rw [if_neg c28] at H
    exact absurd H (by simp)
  rw [if_pos c28] at H
  have c28b0 : decide (x31_2 < (t709.length : Int)) = true := decide_eq_true c28
  clear c28
  by_cases c29 : a0_1 = 0
  · rw [if_pos c29] at H
    exact absurd H (by simp)
  rw [if_neg c29] at H
  have c29b0 : (a0_1 == 0) = false := beq_eq_false_iff_ne.mpr c29
  have c29b1 : (a0_1 != 0) = true := bne_iff_ne.mpr c29
  replace H := Option.bind_eq_some_iff.mp H
  obtain ⟨t713, A300, H⟩ := H
  try dsimp only at H
  have A30 := Aside0.mk A300
  clear A300
  by_cases c31 : x8_2.size + t713.size ≤ 9223372036854775807
  rotate_left
  · rw [if_neg c31] at H
    exact absurd H (by simp)
  rw [if_pos c31] at H
  have c31b0 := eq_true c31
  have c31b1 : decide (x8_2.size + t713.size ≤ 9223372036854775807) = true := decide_eq_true c31
  try have c31b2 : (9223372036854775807 < x8_2.size + t713.size) = False := eq_false (Nat.not_lt.2 c31)
  have H' := Aside0.mk H
  clear H
  have p712 : 0 ≤ (x31_2 : Int) := of_decide_eq_true (by first | (with_reducible assumption) | assumption)
  have q712 : x31_2 < (t709.length : Int) := of_decide_eq_true (by first | (with_reducible assumption) | assumption)
  obtain ⟨ad712, e712, hx712_0⟩ := Kd.at_int (Kd.R_reads' HO_29.out).2.2 x31_2 p712 q712
  cases e712
  replace p712 := eq_true p712
  replace q712 := eq_true q712
  have hcz32_0 := cz0 BK705
  have hcz32_1 := cz1 BK705
  have hfz32_0 := blk_frozen BK705.out 0
  have hfz32_1 := blk_frozen BK705.out 1
  go_wp2_with (first | ((with_reducible refine gate_callee (f := 57) rfl ?_); refine goesL_ (some 42) rfl rfl Tryz.func57 (by kernel_rfl) rfl #[.int .i64 (Int.tmod (wrap64 ((rd t709 x31_2) + a2)) a0_1)] rfl (by (try simp only [m_1, m_2, m_3]); first | done | rfl | (simp only [m_4, m_5]; rfl)) ?_; (with_reducible refine (spec_l1Num.calls k2 (Int.tmod (wrap64 ((rd t709 x31_2) + a2)) a0_1) t713 _ A30.out).mono ?_); rintro e w33 ⟨rfl, hb⟩; refine ⟨_, rfl, ?_⟩; have n0_ := Aside0.mk (Kd.R_below (by (with_reducible repeat (first | apply r_a | apply r_d | apply r_e)); exact HO_29.out) hb); replace BK705 := bbx hb BK705; replace HB := bsx hb HB; clear HO_29; have HO_29 := n0_; clear n0_; (try clear hb); (try clear hb2); (try clear hk); (try clear hi)))
  go_roundg k2
  case measure => have := HJ3.out; have := HK2.out; omega
  case rel => refine ⟨(x8_2 ++ t713), (wrap64 (x31_2 + 1)), (by first | rfl | (simp; done) | (simp [*]; done)), (by first | rfl | (simp; done) | (simp [*]; done)), H', ⟨by have := HJ3.out; have := HK2.out; omega⟩, ⟨?_⟩, ⟨?_⟩, ⟨bB HB⟩⟩ <;> (with_reducible repeat (first | refine g_d ?_ _ | refine g_e ?_ | refine g_a ?_ _ | apply r_a | apply r_d | apply r_e)) <;> first | exact BK705.out | exact HO_29.out
/-! ### spec_DrawPlaceInRing: function 40 -/
def spec_DrawPlaceInRing.f (k : Nat) (l0 : List Int) : Option (Int × Int × ByteArray) := (spec_newCur.f l0).bind fun bt735 => ((spec_l1Cur_lock.f bt735.1 bt735.2.1 bt735.2.2).bind fun bt739 => ((spec_l1Cur_code1.f k bt735.1 bt739.2.2.1 bt739.2.2.2 bt739.1 bt739.2.1).bind fun bt744 => (some (bt739.1, bt739.2.1, bt744.1))))
theorem spec_DrawPlaceInRing.mono : ∀ a0 k, LeO (spec_DrawPlaceInRing.f k a0) (spec_DrawPlaceInRing.f (k + 1) a0) := by
  intro a0 k
  unfold spec_DrawPlaceInRing.f
  repeat' first
      | (with_reducible exact spec_l1Cur_code1.mono _ _ _ _ _ _)
      | (with_reducible exact LeO.refl _)
      | (with_reducible exact LeO.none _)
      | (with_reducible refine LeO.ite ?_ ?_)
      | (with_reducible refine LeO.bind ?_ (fun _ => ?_))
      | exact spec_l1Cur_code1.mono _ _ _ _ _ _
      | exact LeO.none _
      | refine LeO.ite ?_ ?_
      | refine LeO.bind ?_ (fun _ => ?_)
set_option maxHeartbeats 8000000 in
set_option maxRecDepth 100000 in
theorem spec_DrawPlaceInRing.calls (k : Nat) (A0 : Option Addr) (c0 : Nat) (l0 : List Int) (r1 : Int) (r2 : Int) (r3 : ByteArray) (w : World) (hr0 : Kd.C (Kd.int .u8) w A0 l0.length l0) (hc0 : l0.length ≤ c0) (h : spec_DrawPlaceInRing.f k l0 = some (r1, r2, r3)) :
    Calls Tryz.prog 40 #[.slice A0 l0.length c0] w fun e w' => e = .returned (.tuple #[.agg #[.int .i64 r1, .int .i64 r2], .string r3]) ∧ Below w.heap.size w w' := by
  have hu23 := Tryz.underlying23
  have HR0 := Aside0.mk hr0
  have HC0 := Aside0.mk hc0
  clear hr0 hc0
  have HB := Aside0.mk (Below.refl w.heap.size w)
  have H : ((spec_newCur.f l0).bind fun bt735 => ((spec_l1Cur_lock.f bt735.1 bt735.2.1 bt735.2.2).bind fun bt739 => ((spec_l1Cur_code1.f k bt735.1 bt739.2.2.1 bt739.2.2.2 bt739.1 bt739.2.1).bind fun bt744 => (some (bt739.1, bt739.2.1, bt744.1))))) = some (r1, r2, r3) := h
  clear h
  replace H := Option.bind_eq_some_iff.mp H
  obtain ⟨⟨t735, t736, t737⟩, A20, H⟩ := H
  try dsimp only at H
  have A2 := Aside0.mk A20
  clear A20
  replace H := Option.bind_eq_some_iff.mp H
  obtain ⟨⟨t739, t740, t741, t742⟩, A30, H⟩ := H
  try dsimp only at H
  have A3 := Aside0.mk A30
  clear A30
  replace H := Option.bind_eq_some_iff.mp H
  obtain ⟨⟨t744, t745, t746⟩, A40, H⟩ := H
  try dsimp only at H
  have A4 := Aside0.mk A40
  clear A40
  simp only [Option.some.injEq, Prod.mk.injEq] at H
  obtain ⟨rfl, rfl, rfl⟩ := H
  have hu81 := Tryz.underlying81
  go_enter Tryz.func40, Tryz.ntmps40
  try go_wp2_with (first | ((with_reducible refine gate_dst (N := 2) rfl ?_); refine box_event ?hg (N := 2) ?hd (cs := #[.int .i64 0, .int .i64 0]) (t := 23) ?hr ?_; (case hd => rfl); (case hg => rfl); (case hr => first | (go_simp; done) | (go_simp; rfl)); intro gb734 hg w5 hbox hb; have n0_ := bsx hb HB; have n1_ := Aside0.mk (hbox); have n2_ := gwx hg HB; have n3_ := n2_; clear HB; have HB := n0_; have BK734 := n1_; have GW734 := n2_; have GE734 := n3_; clear n0_ n1_ n2_ n3_; clear hb hbox hg) | ((with_reducible refine gate_dst (N := 8) rfl ?_); refine box_event ?hg (N := 8) ?hd (cs := #[.slice A0 l0.length c0, .int .i64 0, .int .u64 0]) (t := 81) ?hr ?_; (case hd => rfl); (case hg => rfl); (case hr => first | (go_simp; done) | (go_simp; rfl)); intro g738 hg w6 hbox hb2; have hi : IsS81 w w6 g738 t735 t736 t737 := spec_newCur.is A2.out hbox (by rw [hg]; exact (below_size (bB HB))) HR0.out; have hb := below_step (bB HB) hb2; clear hbox hg; have n0_ := Aside0.mk (blk_below (g := gb734) (o := .cells #[.int .i64 0, .int .i64 0] 23 (0, 0)) (bK BK734) hb2); have n1_ := Aside0.mk (hb); have n2_ := Aside0.mk (hi); have n3_ := Aside0.mk (IsS81.ne_blk hi (blk_below (g := gb734) (o := .cells #[.int .i64 0, .int .i64 0] 23 (0, 0)) (bK BK734) hb2) (by decide)); have n4_ := Aside0.mk (Ne.symm (IsS81.ne_blk hi (blk_below (g := gb734) (o := .cells #[.int .i64 0, .int .i64 0] 23 (0, 0)) (bK BK734) hb2) (by decide))); clear BK734; clear HB; have BK734 := n0_; have HB := n1_; have HI738 := n2_; have NB738_734 := n3_; have NB734_738 := n4_; clear n0_ n1_ n2_ n3_ n4_; (try clear hb); (try clear hb2); (try clear hk); (try clear hi)) | ((with_reducible refine gate_callee (f := 87) rfl ?_); refine goesL_ (some 10) rfl rfl Tryz.func87 (by kernel_rfl) rfl #[.pointer (some ⟨g738, 0, none⟩)] rfl (by (try simp only [m_1, m_2, m_3]); first | done | rfl | (simp only [m_4, m_5]; rfl)) ?_; (with_reducible refine (spec_l1Cur_lock.calls g738 t735 t736 t737 t739 t740 t741 t742 w _ ?side1 ?side2 A3.out).mono ?_); (case side1 => exact sI HI738); (case side2 => exact sB HB); rintro e w7 ⟨rfl, hi, hb, hk⟩; refine ⟨_, rfl, ?_⟩; have n0_ := Aside0.mk (KeepBut.blk hk (bK BK734) NB734_738.out (by simp)); have n1_ := Aside0.mk (hb); have n2_ := Aside0.mk (hi); clear BK734; clear HB; clear HI738; have BK734 := n0_; have HB := n1_; have HI738 := n2_; clear n0_ n1_ n2_; (try clear hb); (try clear hb2); (try clear hk); (try clear hi)) | ((with_reducible refine gate_dst (N := 5) rfl ?_); refine box_event ?hg (N := 5) ?hd (cs := #[.int .i64 0, .int .i64 0]) (t := 23) ?hr ?_; (case hd => rfl); (case hg => rfl); (case hr => first | (go_simp; done) | (go_simp; rfl)); intro gb743 hg w8 hbox hb; have n0_ := bbx hb BK734; have n1_ := Aside0.mk (IsS81.below (sI HI738) hb); have n2_ := Aside0.mk (below_step (sB HB) hb); have n3_ := Aside0.mk (hbox); have n4_ := Aside0.mk ((by rw [hg]; exact (below_size (sB HB)) : w.heap.size ≤ gb743)); have n5_ := Aside0.mk ((by rw [hg]; exact (below_size (sB HB)) : w.heap.size ≤ gb743)); have n6_ := nlx hg BK734; have n7_ := ngx hg BK734; have n8_ := Aside0.mk ((by rw [hg]; exact Nat.ne_of_lt (IsS81.lt (show IsS81 w _ g738 t735 t741 t742 from sI HI738)) : g738 ≠ gb743)); have n9_ := Aside0.mk ((by rw [hg]; exact Nat.ne_of_gt (IsS81.lt (show IsS81 w _ g738 t735 t741 t742 from sI HI738)) : gb743 ≠ g738)); clear BK734; clear HI738; clear HB; have BK734 := n0_; have HI738 := n1_; have HB := n2_; have BK743 := n3_; have GW743 := n4_; have GE743 := n5_; have NB734_743 := n6_; have NB743_734 := n7_; have NB738_743 := n8_; have NB743_738 := n9_; clear n0_ n1_ n2_ n3_ n4_ n5_ n6_ n7_ n8_ n9_; clear hb hbox hg; have hnb9 := NB743_734.out; have hnc9 := NB734_743.out; have hnb10 := NB743_738.out; have hnc10 := NB738_743.out; have hcz11_0 : w8.cell? ⟨gb743, 0, none⟩ = some (.int .i64 0) := (blk_cell BK743.out 0).trans rfl; have hcz11_1 : w8.cell? ⟨gb743, 1, none⟩ = some (.int .i64 0) := (blk_cell BK743.out 1).trans rfl; have hfz11_0 := blk_frozen BK743.out 0; have hfz11_1 := blk_frozen BK743.out 1))
  have n0_ : Aside0 (((w8.setCell ⟨gb743, 0, none⟩ (.int .i64 t739)).setCell ⟨gb743, 1, none⟩ (.int .i64 t740)).heap[gb734]? = some (.cells #[.int .i64 0, .int .i64 0] 23 (0, 0))) := ⟨bF⟩
  have n1_ : Aside0 (((w8.setCell ⟨gb743, 0, none⟩ (.int .i64 t739)).setCell ⟨gb743, 1, none⟩ (.int .i64 t740)).heap[gb743]? = some (.cells #[.int .i64 t739, .int .i64 t740] 23 (0, 0))) := ⟨by (with_reducible repeat (first | refine g_d ?_ _ | refine g_e ?_ | refine g_a ?_ _)); refine blk_put (cs := #[.int .i64 t739, .int .i64 0]) ?_ 1 _ rfl; (with_reducible repeat (first | refine g_d ?_ _ | refine g_e ?_ | refine g_a ?_ _)); refine blk_put (cs := #[.int .i64 0, .int .i64 0]) ?_ 0 _ rfl; (with_reducible repeat (first | refine g_d ?_ _ | refine g_e ?_ | refine g_a ?_ _)); exact BK743.out⟩
  have n2_ : Aside0 (IsS81 w ((w8.setCell ⟨gb743, 0, none⟩ (.int .i64 t739)).setCell ⟨gb743, 1, none⟩ (.int .i64 t740)) g738 t735 t741 t742) := ⟨sI HI738⟩
  have n3_ : Aside0 (Below w.heap.size w ((w8.setCell ⟨gb743, 0, none⟩ (.int .i64 t739)).setCell ⟨gb743, 1, none⟩ (.int .i64 t740))) := ⟨sB HB⟩
  (try clear BK734)
  (try clear BK743)
  (try clear HI738)
  (try clear HB)
  generalize ((w8.setCell ⟨gb743, 0, none⟩ (.int .i64 t739)).setCell ⟨gb743, 1, none⟩ (.int .i64 t740)) = w12 at n0_ n1_ n2_ n3_ ⊢
  have BK734 := n0_
  have BK743 := n1_
  have HI738 := n2_
  have HB := n3_
  clear n0_ n1_ n2_ n3_
  have n0_ := Aside0.mk (g_e BK734.out)
  have n1_ := Aside0.mk (g_e BK743.out)
  have n2_ := Aside0.mk (IsS81.drew HI738.out)
  have n3_ := Aside0.mk (b_e HB.out)
  clear BK734
  clear BK743
  clear HI738
  clear HB
  have BK734 := n0_
  have BK743 := n1_
  have HI738 := n2_
  have HB := n3_
  clear n0_ n1_ n2_ n3_
  refine start_ (n := 6) (S := fun w' => w'.cell? ⟨gb743, 0, none⟩ = some (.int .i64 t739) ∧ w'.cell? ⟨gb743, 1, none⟩ = some (.int .i64 t740)) (ds := []) (bs_ 6 0) (by kernel_rfl) rfl rfl ⟨(blk_cell BK743.out 0).trans rfl, (blk_cell BK743.out 1).trans rfl⟩ (fun hHeld => ?_)
  generalize w12.drew = w13 at BK734 BK743 HI738 HB hHeld ⊢
  refine pure_ (i := 1) (N := some 12) (v := ?_) (a' := ?_) (bs_ 6 2) rfl rfl (by kernel_rfl) (fun _ _ _ h => h) (Or.inl ⟨by rfl, ?_⟩) ?_ ?_
  rotate_left
  · intro w'
    go_simp
    with_reducible rfl
  rotate_left
  · simp only [Act.put, s_1, s_2, s_3, i64_w, i32_w]
    rfl
  refine take_ (i := 0) (N := some 11) (v := ?_) (a' := ?_) (bs_ 6 3) rfl rfl (by kernel_rfl) (fun _ _ _ h => h) (Or.inl ⟨by rfl, ?_⟩) hHeld ?_ ?_
  rotate_left
  · rintro w' ⟨s0, s1⟩
    go_simp
    with_reducible rfl
  rotate_left
  · simp only [Act.put, s_1, s_2, s_3, i64_w, i32_w]
    rfl
  refine take_ (i := 2) (N := some 13) (v := ?_) (a' := ?_) (bs_ 6 7) rfl rfl (by kernel_rfl) (fun _ _ _ h => h) (Or.inl ⟨by rfl, ?_⟩) hHeld ?_ ?_
  rotate_left
  · rintro w' ⟨s0, s1⟩
    go_simp
    with_reducible rfl
  rotate_left
  · simp only [Act.put, s_1, s_2, s_3, i64_w, i32_w]
    rfl
  refine one_ (i := 3) (N := some 14) (bs_ 6 15) rfl rfl (by kernel_rfl) (by decide) (fun K hK => ?_)
  refine goes_ Tryz.func88 (by kernel_rfl) rfl #[.pointer (some ⟨g738, 0, none⟩), .agg #[.int .i64 t739, .int .i64 t740]] (by rfl) rfl rfl (by (try simp only [m_1, m_2, m_3]); first | done | rfl | (simp only [m_4, m_5]; rfl)) ?_
  with_reducible refine (spec_l1Cur_code1.calls k g738 t735 t741 t742 t739 t740 t744 t745 t746 w _ ?side1 ?side2 A4.out).mono ?_
  (case side1 => exact sI HI738)
  (case side2 => exact sB HB)
  rintro e w14 ⟨rfl, hi, hb, hk⟩
  refine ⟨_, rfl, ?_⟩
  have n0_ := Aside0.mk (KeepBut.blk hk (bK BK734) NB734_738.out (by simp))
  have n1_ := Aside0.mk (KeepBut.blk hk (bK BK743) NB743_738.out (by simp))
  have n2_ := Aside0.mk (hb)
  have n3_ := Aside0.mk (hi)
  clear BK734
  clear BK743
  clear HB
  clear HI738
  have BK734 := n0_
  have BK743 := n1_
  have HB := n2_
  have HI738 := n3_
  clear n0_ n1_ n2_ n3_
  (try clear hb)
  (try clear hb2)
  (try clear hk)
  (try clear hi)
  refine hK.out _ _ ⟨(blk_cell BK743.out 0).trans rfl, (blk_cell BK743.out 1).trans rfl⟩ (fun hHeld => ?_)
  clear hK K
  refine norm_ (a' := ?_) ?_ ?_
  rotate_left
  · show Act.put _ (some 14) _ = _
    simp only [Act.put, s_1, s_2, s_3, i64_w, i32_w]
    rfl
  refine one_ (i := 4) (N := none) (bs_ 6 31) rfl rfl (by kernel_rfl) (by decide) (fun K hK => ?_)
  have hs15 : w14.cell? ⟨gb734, 0, none⟩ = some (.int .i64 0) := (blk_cell BK734.out 0).trans rfl
  have hfs15 := blk_frozen BK734.out 0
  have hns15_1 := NB743_734.out
  have hms15_1 := NB734_743.out
  have hs16 : w14.cell? ⟨gb734, 1, none⟩ = some (.int .i64 0) := (blk_cell BK734.out 1).trans rfl
  have hfs16 := blk_frozen BK734.out 1
  have hns16_1 := NB743_734.out
  have hms16_1 := NB734_743.out
  refine skip_ (w1 := ?_) (by rfl) rfl ?_ ?_
  rotate_left
  · go_simp
    rfl
  refine hK.out _ _ ⟨((cell_far (p := ⟨gb734, _, none⟩) NB743_734.out _).trans (((cell_far (p := ⟨gb734, _, none⟩) NB743_734.out _).trans (hHeld.1)))), ((cell_far (p := ⟨gb734, _, none⟩) NB743_734.out _).trans (((cell_far (p := ⟨gb734, _, none⟩) NB743_734.out _).trans (hHeld.2))))⟩ (fun hHeld => ?_)
  clear hK K
  refine pure_ (i := 5) (N := some 3) (v := ?_) (a' := ?_) (bs_ 6 63) rfl rfl (by kernel_rfl) (fun _ _ _ h => h) (Or.inl ⟨by rfl, ?_⟩) ?_ ?_
  rotate_left
  · intro w'
    go_simp
    with_reducible rfl
  rotate_left
  · simp only [Act.put, s_1, s_2, s_3, i64_w, i32_w]
    rfl
  refine done_ (by kernel_rfl) ?_
  try go_wp2
  refine bodyPost_ret (results_ct rfl _ _ gb734 23 #[.int .i64 t739, .int .i64 t740] (0, 0) _ rfl (by (with_reducible repeat (first | refine g_d ?_ _ | refine g_e ?_ | refine g_a ?_ _)); refine blk_put (cs := #[.int .i64 t739, .int .i64 0]) ?_ 1 _ rfl; (with_reducible repeat (first | refine g_d ?_ _ | refine g_e ?_ | refine g_a ?_ _)); refine blk_put (cs := #[.int .i64 0, .int .i64 0]) ?_ 0 _ rfl; (with_reducible repeat (first | refine g_d ?_ _ | refine g_e ?_ | refine g_a ?_ _)); exact BK734.out) Tryz.underlying23 rfl (by kernel_rfl)) rfl ?_
  exact ⟨by first | rfl | (simp [errW_none, errW_some] <;> rfl) | (simp [*, errW_none, errW_some] <;> rfl), sB HB⟩

/-! ### impl_PlaceInRing: function 41 -/
def impl_PlaceInRing.j0 : Nat → ByteArray → Bool → Int → Int → Option (Int × Bool)
  | 0, _, _, _, _ => none
  | k + 1, x1, x16, x748000, x748001 => if x16 = true then (some (0, false)) else ((impl_Lock_ring.f k x748000 x748001).bind fun t753 => (if 0 ≤ (wrap64 (x748000 - 1)) then (if (wrap64 (x748000 - 1)) ≤ (t753.size : Int) then (if t753.size + (t753.extract 0 ((wrap64 (x748000 - 1)) : Int).toNat).size ≤ 9223372036854775807 then ((strings_Index.f (t753 ++ (t753.extract 0 ((wrap64 (x748000 - 1)) : Int).toNat)) x1).bind fun t754 => (some (t754, true))) else (none)) else (none)) else (none)))
def impl_PlaceInRing.f (k : Nat) (a0_0 : Int) (a0_1 : Int) (a1 : ByteArray) : Option (Int × Bool) := (impl_isRounded.f k a0_0 a0_1).bind fun t748 => (if t748 = true then ((impl_has.f k a0_0 a0_1 (([a1] : List ByteArray))).bind fun t752 => (impl_PlaceInRing.j0 k a1 (!t752) a0_0 a0_1)) else (impl_PlaceInRing.j0 k a1 true a0_0 a0_1))
theorem impl_PlaceInRing.mono_l : ∀ k, (∀ y0 y1 y2 y3, LeO (impl_PlaceInRing.j0 k y0 y1 y2 y3) (impl_PlaceInRing.j0 (k + 1) y0 y1 y2 y3))
  | 0 => fun _ _ _ _ r h => by simp [impl_PlaceInRing.j0] at h
  | k + 1 => by
    have ih0 := impl_PlaceInRing.mono_l k
    · intro y0 y1 y2 y3
      unfold impl_PlaceInRing.j0
      repeat' first
      | (with_reducible exact ih0 _ _ _ _)
      | (with_reducible exact impl_Lock_ring.mono _ _ _)
      | (with_reducible exact impl_has.mono _ _ _ _)
      | (with_reducible exact impl_isRounded.mono _ _ _)
      | (with_reducible exact LeO.refl _)
      | (with_reducible exact LeO.none _)
      | (with_reducible refine LeO.ite ?_ ?_)
      | (with_reducible refine LeO.bind ?_ (fun _ => ?_))
      | exact ih0 _ _ _ _
      | exact impl_Lock_ring.mono _ _ _
      | exact impl_has.mono _ _ _ _
      | exact impl_isRounded.mono _ _ _
      | exact LeO.none _
      | refine LeO.ite ?_ ?_
      | refine LeO.bind ?_ (fun _ => ?_)
theorem impl_PlaceInRing.mono : ∀ a0 a1 a2 k, LeO (impl_PlaceInRing.f k a0 a1 a2) (impl_PlaceInRing.f (k + 1) a0 a1 a2) := by
  intro a0 a1 a2 k
  have ih0 := impl_PlaceInRing.mono_l k
  unfold impl_PlaceInRing.f
  repeat' first
      | (with_reducible exact ih0 _ _ _ _)
      | (with_reducible exact impl_Lock_ring.mono _ _ _)
      | (with_reducible exact impl_has.mono _ _ _ _)
      | (with_reducible exact impl_isRounded.mono _ _ _)
      | (with_reducible exact LeO.refl _)
      | (with_reducible exact LeO.none _)
      | (with_reducible refine LeO.ite ?_ ?_)
      | (with_reducible refine LeO.bind ?_ (fun _ => ?_))
      | exact ih0 _ _ _ _
      | exact impl_Lock_ring.mono _ _ _
      | exact impl_has.mono _ _ _ _
      | exact impl_isRounded.mono _ _ _
      | exact LeO.none _
      | refine LeO.ite ?_ ?_
      | refine LeO.bind ?_ (fun _ => ?_)
set_option maxHeartbeats 8000000 in
set_option maxRecDepth 100000 in
theorem impl_PlaceInRing.calls (k : Nat) (a0_0 : Int) (a0_1 : Int) (a1 : ByteArray) (r1 : Int) (r2 : Bool) (w : World) (hG : strings_Index.Gl w) (h : impl_PlaceInRing.f k a0_0 a0_1 a1 = some (r1, r2)) :
    Calls Tryz.prog 41 #[.agg #[.int .i64 a0_0, .int .i64 a0_1], .string a1] w fun e w' => e = .returned (.tuple #[.int .i64 r1, .bool r2]) ∧ Below w.heap.size w w' := by
  have HG := Aside0.mk hG
  clear hG
  have hu23 := Tryz.underlying23
  have HB := Aside0.mk (Below.refl w.heap.size w)
  have H : ((impl_isRounded.f k a0_0 a0_1).bind fun t748 => (if t748 = true then ((impl_has.f k a0_0 a0_1 (([a1] : List ByteArray))).bind fun t752 => (impl_PlaceInRing.j0 k a1 (!t752) a0_0 a0_1)) else (impl_PlaceInRing.j0 k a1 true a0_0 a0_1))) = some (r1, r2) := h
  clear h
  have HC3 := Aside0.mk H
  clear H
  go_enter Tryz.func41, Tryz.ntmps41
  go_upto_region 1 with (first | ((with_reducible refine gate_dst (N := 2) rfl ?_); (try (refine gate_guard (by rfl) ?_; dsimp only)); refine box_event ?hg (N := 2) ?hd (cs := #[.int .i64 a0_0, .int .i64 a0_1]) (t := 23) ?hr ?_; (case hd => rfl); (case hg => rfl); (case hr => first | (go_simp; done) | (go_simp; rfl)); intro gb747 hg w4 hbox hb; have n0_ := bsx hb HB; have n1_ := Aside0.mk (hbox); have n2_ := gwx hg HB; have n3_ := n2_; clear HB; have HB := n0_; have BK747 := n1_; have GW747 := n2_; have GE747 := n3_; clear n0_ n1_ n2_ n3_; clear hb hbox hg))
  (try simp only [Act.put, s_1, s_2, s_3])
  go_cut [16] (fun v16 wc => ∃ (kq : Nat) (x16_2 : Bool), v16 = .bool x16_2 ∧ Aside0 (impl_PlaceInRing.j0 kq a1 x16_2 a0_0 a0_1 = some (r1, r2)) ∧ Aside0 (kq ≤ k) ∧ Aside0 (wc.heap[gb747]? = some (.cells #[.int .i64 a0_0, .int .i64 a0_1] 23 (0, 0))) ∧ Aside0 (Below w.heap.size w wc))
  case first =>
    have H := HC3.out
    clear HC3
    replace H := Option.bind_eq_some_iff.mp H
    obtain ⟨t748, A50, H⟩ := H
    try dsimp only at H
    have A5 := Aside0.mk A50
    clear A50
    by_cases c6 : t748 = true
    rotate_left
    · replace c6 := Bool.eq_false_iff.mpr c6
      subst c6
      rw [if_neg (show ¬ (false = true) by decide)] at H
      have H' := Aside0.mk H
      clear H
      have hcz15_0 := cz0 BK747
      have hcz15_1 := cz1 BK747
      have hfz15_0 := blk_frozen BK747.out 0
      have hfz15_1 := blk_frozen BK747.out 1
      go_wp2_with (first | ((with_reducible refine gate_callee (f := 50) rfl ?_); refine goesL_ (some 8) rfl rfl Tryz.func50 (by kernel_rfl) rfl #[.agg #[.int .i64 a0_0, .int .i64 a0_1]] rfl (by (try simp only [m_1, m_2, m_3]); first | done | rfl | (simp only [m_4, m_5]; rfl)) ?_; (with_reducible refine (impl_isRounded.calls k a0_0 a0_1 false _ A5.out).mono ?_); rintro e w16 ⟨rfl, hb⟩; refine ⟨_, rfl, ?_⟩; replace BK747 := bbx hb BK747; replace HB := bsx hb HB; skip; (try clear hb); (try clear hb2); (try clear hk); (try clear hi)))
      go_meet
      case rel => exact ⟨_, (true), (by first | rfl | (simp; done) | (simp [*]; done)), H', ⟨by first | omega | exact Nat.le_refl _⟩, ⟨bK BK747⟩, ⟨bB HB⟩⟩
    subst c6
    rw [if_pos rfl] at H
    obtain ⟨y749, hy749⟩ : ∃ y_ : List ByteArray, y_ = (([a1] : List ByteArray)) := ⟨_, rfl⟩
    replace H : ((impl_has.f k a0_0 a0_1 y749).bind fun t752 => (impl_PlaceInRing.j0 k a1 (!t752) a0_0 a0_1)) = some (r1, r2) := by first | (rw [hy749]; with_reducible exact H) | (have H2_ := (Option.bind_some _ _).symm.trans H; rw [hy749]; with_reducible exact H2_) | (have H2_ := (Option.bind_some _ _).symm.trans H; with_reducible exact H2_) | with_reducible exact H | (rw [hy749]; exact H) | exact H
    have Ny749 := Aside0.mk hy749
    clear hy749
    replace H := Option.bind_eq_some_iff.mp H
    obtain ⟨t752, A70, H⟩ := H
    try dsimp only at H
    have A7 := Aside0.mk A70
    clear A70
    have H' := Aside0.mk H
    clear H
    have hcz8_0 := cz0 BK747
    have hcz8_1 := cz1 BK747
    have hfz8_0 := blk_frozen BK747.out 0
    have hfz8_1 := blk_frozen BK747.out 1
    go_wp2_with (first | ((with_reducible refine gate_callee (f := 50) rfl ?_); refine goesL_ (some 8) rfl rfl Tryz.func50 (by kernel_rfl) rfl #[.agg #[.int .i64 a0_0, .int .i64 a0_1]] rfl (by (try simp only [m_1, m_2, m_3]); first | done | rfl | (simp only [m_4, m_5]; rfl)) ?_; (with_reducible refine (impl_isRounded.calls k a0_0 a0_1 true _ A5.out).mono ?_); rintro e w9 ⟨rfl, hb⟩; refine ⟨_, rfl, ?_⟩; replace BK747 := bbx hb BK747; replace HB := bsx hb HB; skip; (try clear hb); (try clear hb2); (try clear hk); (try clear hi); have hcz10_0 := cz0 BK747; have hcz10_1 := cz1 BK747; have hfz10_0 := blk_frozen BK747.out 0; have hfz10_1 := blk_frozen BK747.out 1) | ((with_reducible refine gate_dst (N := 13) rfl ?_); (try (refine gate_guard (by rfl) ?_; dsimp only)); refine Kd.R_lit Kd.string _ 9 ?hg (N := 13) ?hd (xs := ([a1] : List ByteArray)) (inner := [.string a1]) (ok := fun _ => True) (okp := fun _ => True) ?hr ?hp (fun _ hk => hk) trivial (Below.refl _ _) (Nat.le_refl _) (by simp) ?_; (case hd => rfl); (case hg => rfl); (case hr => first | (go_simp; done) | (go_simp; rfl)); (case hp => exact (Reps.one (show Kd.M Kd.string _ _ _ a1 [.string a1] from rfl) (Reps.none _ _))); intro v750 w11 ho12 hb hg_ hnew_; clear hg_ hnew_; (first | rw [← Ny749.out] at ho12 | (simp only [Int.reduceToNat] at ho12; rw [← Ny749.out] at ho12)); have n0_ := Aside0.mk (Kd.R_lower ho12 (below_size (bB HB))); replace BK747 := bbx hb BK747; have n2_ := bsx hb HB; clear HB; have HO751 := n0_; have HB := n2_; clear n0_ n2_; clear hb ho12; obtain ⟨Ao13, co13, eo13⟩ := Kd.R_slice HO751.out; subst eo13) | (go_at_call 79; (with_reducible refine (impl_has.calls k a0_0 a0_1 _ _ y749 t752 _ ?side1 ?side2 A7.out).mono ?_); (case side1 => repeat (first | exact (Kd.R_reads' HO751.out).2.2 | (with_reducible refine Kd.C_alloc ?_ _) | (with_reducible refine Kd.C_drewN ?_ _) | (with_reducible refine Kd.C_drew ?_))); (case side2 => exact (Kd.R_reads' HO751.out).2.1); rintro e w14 ⟨rfl, hb⟩; have n0_ := Aside0.mk (Kd.R_below (by (with_reducible repeat (first | apply r_a | apply r_d | apply r_e)); exact HO751.out) hb); replace BK747 := bbx hb BK747; replace HB := bsx hb HB; clear HO751; have HO751 := n0_; clear n0_; (try clear hb); (try clear hb2); (try clear hk); (try clear hi)))
    go_meet
    case rel => exact ⟨_, (!t752), (by first | rfl | (simp; done) | (simp [*]; done)), H', ⟨by first | omega | exact Nat.le_refl _⟩, ⟨bK BK747⟩, ⟨bB HB⟩⟩
  clear HC3
  obtain ⟨kq, x16_2, rfl, HA, HJ2, BK747, HB⟩ := hcut
  rcases kq with _ | kj2
  · exact absurd HA.out (by simp [impl_PlaceInRing.j0])
  have H := HA.out
  clear HA
  simp only [impl_PlaceInRing.j0] at H
  by_cases c17 : x16_2 = true
  · subst c17
    rw [if_pos rfl] at H
    simp only [Option.some.injEq, Prod.mk.injEq] at H
    obtain ⟨rfl, rfl⟩ := H
    go_wp2
    go_ret2
    exact ⟨by first | rfl | (simp [errW_none, errW_some] <;> rfl) | (simp [*, errW_none, errW_some] <;> rfl), bB HB⟩
  replace c17 := Bool.eq_false_iff.mpr c17
  subst c17
  rw [if_neg (show ¬ (false = true) by decide)] at H
  replace H := Option.bind_eq_some_iff.mp H
  obtain ⟨t753, A180, H⟩ := H
  try dsimp only at H
  have A18 := Aside0.mk A180
  clear A180
  obtain ⟨ji19, hji19⟩ : ∃ j_ : Int, (wrap64 (a0_0 - 1)) = j_ := ⟨_, rfl⟩
  replace H : (if 0 ≤ (ji19) then (if (ji19) ≤ (t753.size : Int) then (if t753.size + (t753.extract 0 ((ji19) : Int).toNat).size ≤ 9223372036854775807 then ((strings_Index.f (t753 ++ (t753.extract 0 ((ji19) : Int).toNat)) a1).bind fun t754 => (some (t754, true))) else (none)) else (none)) else (none)) = some (r1, r2) := by first | (rw [hji19] at H; exact H) | (simp only [hji19] at H ⊢; exact H)
  (try rw [hji19] at A18)
  have hji19w : (IntKind.i64.wrap (a0_0 - 1)) = ji19 := (i64_w _).trans hji19
  by_cases c20 : 0 ≤ (ji19)
  rotate_left
  · rw [if_neg c20] at H
    exact absurd H (by simp)

  rw [if_pos c20] at H
  have c20b0 := eq_true c20
  have c20b1 : decide (0 ≤ (ji19)) = true := decide_eq_true c20
  clear c20
  by_cases c21 : (ji19) ≤ (t753.size : Int)
  rotate_left
  · rw [if_neg c21] at H
    exact absurd H (by simp)
  rw [if_pos c21] at H
  have c21b0 := eq_true c21
  have c21b1 : decide ((ji19) ≤ (t753.size : Int)) = true := decide_eq_true c21
  clear c21
  by_cases c22 : t753.size + (t753.extract 0 ((ji19) : Int).toNat).size ≤ 9223372036854775807
  rotate_left
  · rw [if_neg c22] at H
    exact absurd H (by simp)
  rw [if_pos c22] at H
  have c22b0 := eq_true c22
  have c22b1 : decide (t753.size + (t753.extract 0 ((ji19) : Int).toNat).size ≤ 9223372036854775807) = true := decide_eq_true c22
  try have c22b2 : (9223372036854775807 < t753.size + (t753.extract 0 ((ji19) : Int).toNat).size) = False := eq_false (Nat.not_lt.2 c22)
  have c22b3 : (9223372036854775807 < t753.size + ji19.toNat) = False := eq_false (by have e0_ : (t753.extract 0 ji19.toNat).size = ji19.toNat := (by rw [ByteArray.size_extract]; have q_ : ji19 ≤ (t753.size : Int) := of_eq_true (by assumption); omega); have h_ := c22; rw [e0_] at h_; omega)
  replace H := Option.bind_eq_some_iff.mp H
  obtain ⟨t754, A230, H⟩ := H
  try dsimp only at H
  have A23 := Aside0.mk A230
  clear A230
  simp only [Option.some.injEq, Prod.mk.injEq] at H
  obtain ⟨rfl, rfl⟩ := H
  have hcz24_0 := cz0 BK747
  have hcz24_1 := cz1 BK747
  have hfz24_0 := blk_frozen BK747.out 0
  have hfz24_1 := blk_frozen BK747.out 1
  go_wp2_with (first | ((with_reducible refine gate_callee (f := 51) rfl ?_); refine goesL_ (some 18) rfl rfl Tryz.func51 (by kernel_rfl) rfl #[.agg #[.int .i64 a0_0, .int .i64 a0_1]] rfl (by (try simp only [m_1, m_2, m_3]); first | done | rfl | (simp only [m_4, m_5]; rfl)) ?_; (with_reducible refine (impl_Lock_ring.calls kj2 a0_0 a0_1 t753 _ A18.out).mono ?_); rintro e w25 ⟨rfl, hb⟩; refine ⟨_, rfl, ?_⟩; replace BK747 := bbx hb BK747; replace HB := bsx hb HB; skip; (try clear hb); (try clear hb2); (try clear hk); (try clear hi); have hcz26_0 := cz0 BK747; have hcz26_1 := cz1 BK747; have hfz26_0 := blk_frozen BK747.out 0; have hfz26_1 := blk_frozen BK747.out 1) | ((with_reducible refine gate_callee (f := 80) rfl ?_); refine goesL_ (some 27) rfl rfl Tryz.func80 (by kernel_rfl) rfl #[.string (t753 ++ (t753.extract 0 ((ji19) : Int).toNat)), .string a1] rfl (by (try simp only [m_1, m_2, m_3]); first | done | (simp only [hji19]; rfl) | rfl | (simp only [m_4, m_5]; rfl)) ?_; (with_reducible refine (strings_Index.calls (t753 ++ (t753.extract 0 ((ji19) : Int).toNat)) a1 t754 _ (strings_Index.gl_below HG.out (bB HB)) A23.out).mono ?_); rintro e w' ⟨rfl, ⟨nd, rfl⟩⟩; refine ⟨_, rfl, ?_⟩))
  go_ret2
  exact ⟨by first | rfl | (simp [errW_none, errW_some] <;> rfl) | (simp only [← hji19]; first | rfl | (simp [errW_none, errW_some] <;> rfl)) | (simp [*, errW_none, errW_some] <;> rfl), bB HB⟩
/-! ### spec_PlaceInRing: function 42 -/
mutual
def spec_PlaceInRing.j0 : Nat → ByteArray → Bool → Int → Int → Option (Int × Bool)
  | 0, _, _, _, _ => none
  | k + 1, x1, x16, x756000, x756001 => if x16 = true then (some (0, false)) else ((spec_riLeast.f k x756000 x756001).bind fun t758 => ((spec_riCodes.f k x756000 x756001 t758 true).bind fun t759 => (spec_PlaceInRing.l0 k x1 t759 (t759.length : Int) 0)))
def spec_PlaceInRing.l0 : Nat → ByteArray → List ByteArray → Int → Int → Option (Int × Bool)
  | 0, _, _, _, _ => none
  | k + 1, x1, x20, x21, x22 => if x22 < x21 then (if 0 ≤ x22 then (if x22 < (x20.length : Int) then (if (rdOf ByteArray.empty x20 x22).toList = x1.toList then (some (x22, true)) else (spec_PlaceInRing.l0 k x1 x20 x21 (wrap64 (x22 + 1)))) else (none)) else (none)) else (some (0, false))
end
def spec_PlaceInRing.f (k : Nat) (a0_0 : Int) (a0_1 : Int) (a1 : ByteArray) : Option (Int × Bool) := (spec_riGood.f k a0_0 a0_1).bind fun t756 => (if t756 = true then ((spec_whCode.f k a0_0 a0_1 a1).bind fun t757 => (spec_PlaceInRing.j0 k a1 (!t757) a0_0 a0_1)) else (spec_PlaceInRing.j0 k a1 true a0_0 a0_1))
theorem spec_PlaceInRing.mono_l : ∀ k, (∀ y0 y1 y2 y3, LeO (spec_PlaceInRing.j0 k y0 y1 y2 y3) (spec_PlaceInRing.j0 (k + 1) y0 y1 y2 y3)) ∧ (∀ y0 y1 y2 y3, LeO (spec_PlaceInRing.l0 k y0 y1 y2 y3) (spec_PlaceInRing.l0 (k + 1) y0 y1 y2 y3))
  | 0 => ⟨fun _ _ _ _ r h => by simp [spec_PlaceInRing.j0] at h, fun _ _ _ _ r h => by simp [spec_PlaceInRing.l0] at h⟩
  | k + 1 => by
    obtain ⟨ih0, ih1⟩ := spec_PlaceInRing.mono_l k
    refine ⟨?_, ?_⟩
    rotate_left
    · intro y0 y1 y2 y3
      unfold spec_PlaceInRing.l0
      repeat' first
      | (with_reducible exact ih0 _ _ _ _)
      | (with_reducible exact ih1 _ _ _ _)
      | (with_reducible exact spec_riCodes.mono _ _ _ _ _)
      | (with_reducible exact spec_riGood.mono _ _ _)
      | (with_reducible exact spec_riLeast.mono _ _ _)
      | (with_reducible exact spec_whCode.mono _ _ _ _)
      | (with_reducible exact LeO.refl _)
      | (with_reducible exact LeO.none _)
      | (with_reducible refine LeO.ite ?_ ?_)
      | (with_reducible refine LeO.bind ?_ (fun _ => ?_))
      | exact ih0 _ _ _ _
      | exact ih1 _ _ _ _
      | exact spec_riCodes.mono _ _ _ _ _
      | exact spec_riGood.mono _ _ _
      | exact spec_riLeast.mono _ _ _
      | exact spec_whCode.mono _ _ _ _
      | exact LeO.none _
      | refine LeO.ite ?_ ?_
      | refine LeO.bind ?_ (fun _ => ?_)
    intro y0 y1 y2 y3
    unfold spec_PlaceInRing.j0
    repeat' first
    | (with_reducible exact ih0 _ _ _ _)
    | (with_reducible exact ih1 _ _ _ _)
    | (with_reducible exact spec_riCodes.mono _ _ _ _ _)
    | (with_reducible exact spec_riGood.mono _ _ _)
    | (with_reducible exact spec_riLeast.mono _ _ _)
    | (with_reducible exact spec_whCode.mono _ _ _ _)
    | (with_reducible exact LeO.refl _)
    | (with_reducible exact LeO.none _)
    | (with_reducible refine LeO.ite ?_ ?_)
    | (with_reducible refine LeO.bind ?_ (fun _ => ?_))
    | exact ih0 _ _ _ _
    | exact ih1 _ _ _ _
    | exact spec_riCodes.mono _ _ _ _ _
    | exact spec_riGood.mono _ _ _
    | exact spec_riLeast.mono _ _ _
    | exact spec_whCode.mono _ _ _ _
    | exact LeO.none _
    | refine LeO.ite ?_ ?_
    | refine LeO.bind ?_ (fun _ => ?_)
theorem spec_PlaceInRing.mono : ∀ a0 a1 a2 k, LeO (spec_PlaceInRing.f k a0 a1 a2) (spec_PlaceInRing.f (k + 1) a0 a1 a2) := by
  intro a0 a1 a2 k
  obtain ⟨ih0, ih1⟩ := spec_PlaceInRing.mono_l k
  unfold spec_PlaceInRing.f
  repeat' first
      | (with_reducible exact ih0 _ _ _ _)
      | (with_reducible exact ih1 _ _ _ _)
      | (with_reducible exact spec_riCodes.mono _ _ _ _ _)
      | (with_reducible exact spec_riGood.mono _ _ _)
      | (with_reducible exact spec_riLeast.mono _ _ _)
      | (with_reducible exact spec_whCode.mono _ _ _ _)
      | (with_reducible exact LeO.refl _)
      | (with_reducible exact LeO.none _)
      | (with_reducible refine LeO.ite ?_ ?_)
      | (with_reducible refine LeO.bind ?_ (fun _ => ?_))
      | exact ih0 _ _ _ _
      | exact ih1 _ _ _ _
      | exact spec_riCodes.mono _ _ _ _ _
      | exact spec_riGood.mono _ _ _
      | exact spec_riLeast.mono _ _ _
      | exact spec_whCode.mono _ _ _ _
      | exact LeO.none _
      | refine LeO.ite ?_ ?_
      | refine LeO.bind ?_ (fun _ => ?_)
set_option maxHeartbeats 8000000 in
set_option maxRecDepth 100000 in
theorem spec_PlaceInRing.calls (k : Nat) (a0_0 : Int) (a0_1 : Int) (a1 : ByteArray) (r1 : Int) (r2 : Bool) (w : World) (h : spec_PlaceInRing.f k a0_0 a0_1 a1 = some (r1, r2)) :
    Calls Tryz.prog 42 #[.agg #[.int .i64 a0_0, .int .i64 a0_1], .string a1] w fun e w' => e = .returned (.tuple #[.int .i64 r1, .bool r2]) ∧ Below w.heap.size w w' := by
  have hu23 := Tryz.underlying23
  have HB := Aside0.mk (Below.refl w.heap.size w)
  have H : ((spec_riGood.f k a0_0 a0_1).bind fun t756 => (if t756 = true then ((spec_whCode.f k a0_0 a0_1 a1).bind fun t757 => (spec_PlaceInRing.j0 k a1 (!t757) a0_0 a0_1)) else (spec_PlaceInRing.j0 k a1 true a0_0 a0_1))) = some (r1, r2) := h
  clear h
  have HC3 := Aside0.mk H
  clear H
  go_enter Tryz.func42, Tryz.ntmps42
  go_upto_region 1 with (first | ((with_reducible refine gate_dst (N := 2) rfl ?_); refine box_event ?hg (N := 2) ?hd (cs := #[.int .i64 a0_0, .int .i64 a0_1]) (t := 23) ?hr ?_; (case hd => rfl); (case hg => rfl); (case hr => first | (go_simp; done) | (go_simp; rfl)); intro gb755 hg w4 hbox hb; have n0_ := bsx hb HB; have n1_ := Aside0.mk (hbox); have n2_ := gwx hg HB; have n3_ := n2_; clear HB; have HB := n0_; have BK755 := n1_; have GW755 := n2_; have GE755 := n3_; clear n0_ n1_ n2_ n3_; clear hb hbox hg))
  (try simp only [Act.put, s_1, s_2, s_3])
  go_cut [16] (fun v16 wc => ∃ (kq : Nat) (x16_2 : Bool), v16 = .bool x16_2 ∧ Aside0 (spec_PlaceInRing.j0 kq a1 x16_2 a0_0 a0_1 = some (r1, r2)) ∧ Aside0 (kq ≤ k) ∧ Aside0 (wc.heap[gb755]? = some (.cells #[.int .i64 a0_0, .int .i64 a0_1] 23 (0, 0))) ∧ Aside0 (Below w.heap.size w wc))
  case first =>
    have H := HC3.out
    clear HC3
    replace H := Option.bind_eq_some_iff.mp H
    obtain ⟨t756, A50, H⟩ := H
    try dsimp only at H
    have A5 := Aside0.mk A50
    clear A50
    by_cases c6 : t756 = true
    rotate_left
    · replace c6 := Bool.eq_false_iff.mpr c6
      subst c6
      rw [if_neg (show ¬ (false = true) by decide)] at H
      have H' := Aside0.mk H
      clear H
      have hcz12_0 := cz0 BK755
      have hcz12_1 := cz1 BK755
      have hfz12_0 := blk_frozen BK755.out 0
      have hfz12_1 := blk_frozen BK755.out 1
      go_wp2_with (first | ((with_reducible refine gate_callee (f := 52) rfl ?_); refine goesL_ (some 9) rfl rfl Tryz.func52 (by kernel_rfl) rfl #[.agg #[.int .i64 a0_0, .int .i64 a0_1]] rfl (by (try simp only [m_1, m_2, m_3]); first | done | rfl | (simp only [m_4, m_5]; rfl)) ?_; (with_reducible refine (spec_riGood.calls k a0_0 a0_1 false _ A5.out).mono ?_); rintro e w13 ⟨rfl, hb⟩; refine ⟨_, rfl, ?_⟩; replace BK755 := bbx hb BK755; replace HB := bsx hb HB; skip; (try clear hb); (try clear hb2); (try clear hk); (try clear hi)))
      go_meet
      case rel => exact ⟨_, (true), (by first | rfl | (simp; done) | (simp [*]; done)), H', ⟨by first | omega | exact Nat.le_refl _⟩, ⟨bK BK755⟩, ⟨bB HB⟩⟩
    subst c6
    rw [if_pos rfl] at H
    replace H := Option.bind_eq_some_iff.mp H
    obtain ⟨t757, A70, H⟩ := H
    try dsimp only at H
    have A7 := Aside0.mk A70
    clear A70
    have H' := Aside0.mk H
    clear H
    have hcz8_0 := cz0 BK755
    have hcz8_1 := cz1 BK755
    have hfz8_0 := blk_frozen BK755.out 0
    have hfz8_1 := blk_frozen BK755.out 1
    go_wp2_with (first | ((with_reducible refine gate_callee (f := 52) rfl ?_); refine goesL_ (some 9) rfl rfl Tryz.func52 (by kernel_rfl) rfl #[.agg #[.int .i64 a0_0, .int .i64 a0_1]] rfl (by (try simp only [m_1, m_2, m_3]); first | done | rfl | (simp only [m_4, m_5]; rfl)) ?_; (with_reducible refine (spec_riGood.calls k a0_0 a0_1 true _ A5.out).mono ?_); rintro e w9 ⟨rfl, hb⟩; refine ⟨_, rfl, ?_⟩; replace BK755 := bbx hb BK755; replace HB := bsx hb HB; skip; (try clear hb); (try clear hb2); (try clear hk); (try clear hi); have hcz10_0 := cz0 BK755; have hcz10_1 := cz1 BK755; have hfz10_0 := blk_frozen BK755.out 0; have hfz10_1 := blk_frozen BK755.out 1) | (go_at_call 81; (with_reducible refine (spec_whCode.calls k a0_0 a0_1 a1 t757 _ A7.out).mono ?_); rintro e w11 ⟨rfl, hb⟩; replace BK755 := bbx hb BK755; replace HB := bsx hb HB; skip; (try clear hb); (try clear hb2); (try clear hk); (try clear hi)))
    go_meet
    case rel => exact ⟨_, (!t757), (by first | rfl | (simp; done) | (simp [*]; done)), H', ⟨by first | omega | exact Nat.le_refl _⟩, ⟨bK BK755⟩, ⟨bB HB⟩⟩
  clear HC3
  obtain ⟨kq, x16_2, rfl, HA, HJ2, BK755, HB⟩ := hcut
  rcases kq with _ | kj2
  · exact absurd HA.out (by simp [spec_PlaceInRing.j0])
  have H := HA.out
  clear HA
  simp only [spec_PlaceInRing.j0] at H
  by_cases c14 : x16_2 = true
  · subst c14
    rw [if_pos rfl] at H
    simp only [Option.some.injEq, Prod.mk.injEq] at H
    obtain ⟨rfl, rfl⟩ := H
    go_wp2
    go_ret2
    exact ⟨by first | rfl | (simp [errW_none, errW_some] <;> rfl) | (simp [*, errW_none, errW_some] <;> rfl), bB HB⟩
  replace c14 := Bool.eq_false_iff.mpr c14
  subst c14
  rw [if_neg (show ¬ (false = true) by decide)] at H
  replace H := Option.bind_eq_some_iff.mp H
  obtain ⟨t758, A150, H⟩ := H
  try dsimp only at H
  have A15 := Aside0.mk A150
  clear A150
  replace H := Option.bind_eq_some_iff.mp H
  obtain ⟨t759, A160, H⟩ := H
  try dsimp only at H
  have A16 := Aside0.mk A160
  clear A160
  have H' := Aside0.mk H
  clear H
  try go_wp2
  have n0_ := Aside0.mk (g_e BK755.out)
  have n1_ := Aside0.mk (b_e HB.out)
  clear BK755
  clear HB
  have BK755 := n0_
  have HB := n1_
  clear n0_ n1_
  refine start_ (n := 6) (S := fun w' => w'.cell? ⟨gb755, 0, none⟩ = some (.int .i64 a0_0) ∧ w'.cell? ⟨gb755, 1, none⟩ = some (.int .i64 a0_1)) (ds := []) (bs_ 6 0) (by kernel_rfl) rfl rfl ⟨(blk_cell BK755.out 0).trans rfl, (blk_cell BK755.out 1).trans rfl⟩ (fun hHeld => ?_)
  generalize wc.drew = w17 at BK755 HB hHeld ⊢
  refine pure_ (i := 5) (N := some 22) (v := ?_) (a' := ?_) (bs_ 6 32) rfl rfl (by kernel_rfl) (fun _ _ _ h => h) (Or.inl ⟨by rfl, ?_⟩) ?_ ?_
  rotate_left
  · intro w'
    go_simp
    with_reducible rfl
  rotate_left
  · simp only [Act.put, s_1, s_2, s_3, i64_w, i32_w]
    rfl
  refine take_ (i := 0) (N := some 17) (v := ?_) (a' := ?_) (bs_ 6 33) rfl rfl (by kernel_rfl) (fun _ _ _ h => h) (Or.inl ⟨by rfl, ?_⟩) hHeld ?_ ?_
  rotate_left
  · rintro w' ⟨s0, s1⟩
    go_simp
    with_reducible rfl
  rotate_left
  · simp only [Act.put, s_1, s_2, s_3, i64_w, i32_w]
    rfl
  refine take_ (i := 1) (N := some 18) (v := ?_) (a' := ?_) (bs_ 6 35) rfl rfl (by kernel_rfl) (fun _ _ _ h => h) (Or.inl ⟨by rfl, ?_⟩) hHeld ?_ ?_
  rotate_left
  · rintro w' ⟨s0, s1⟩
    go_simp
    with_reducible rfl
  rotate_left
  · simp only [Act.put, s_1, s_2, s_3, i64_w, i32_w]
    rfl
  refine one_ (i := 2) (N := some 19) (bs_ 6 39) rfl rfl (by kernel_rfl) (by decide) (fun K hK => ?_)
  refine goes_ Tryz.func53 (by kernel_rfl) rfl #[.agg #[.int .i64 a0_0, .int .i64 a0_1]] (by rfl) rfl rfl (by (try simp only [m_1, m_2, m_3]); first | done | rfl | (simp only [m_4, m_5]; rfl)) ?_
  with_reducible refine (spec_riLeast.calls kj2 a0_0 a0_1 t758 _ A15.out).mono ?_
  rintro e w18 ⟨rfl, hb⟩
  refine ⟨_, rfl, ?_⟩
  have n0_ := bbx hb BK755
  have n1_ := bsx hb HB
  clear BK755
  clear HB
  have BK755 := n0_
  have HB := n1_
  clear n0_ n1_
  (try clear hb)
  (try clear hb2)
  (try clear hk)
  (try clear hi)
  refine hK.out _ _ ⟨(blk_cell BK755.out 0).trans rfl, (blk_cell BK755.out 1).trans rfl⟩ (fun hHeld => ?_)
  clear hK K
  refine norm_ (a' := ?_) ?_ ?_
  rotate_left
  · show Act.put _ (some 19) _ = _
    simp only [Act.put, s_1, s_2, s_3, i64_w, i32_w]
    rfl
  refine one_ (i := 3) (N := some 20) (bs_ 6 47) rfl rfl (by kernel_rfl) (by decide) (fun K hK => ?_)
  refine goes_ Tryz.func77 (by kernel_rfl) rfl #[.agg #[.int .i64 a0_0, .int .i64 a0_1], .string t758, .bool true] (by rfl) rfl rfl (by (try simp only [m_1, m_2, m_3]); first | done | rfl | (simp only [m_4, m_5]; rfl)) ?_
  with_reducible refine (spec_riCodes.calls kj2 a0_0 a0_1 t758 true t759 _ A16.out).mono ?_
  rintro e w19 ⟨v760, rfl, ho0, hb⟩
  refine ⟨_, rfl, ?_⟩
  have n0_ := Aside0.mk (Kd.R_lower ho0 (below_size (bB HB)))
  have n1_ := bbx hb BK755
  have n2_ := bsx hb HB
  clear BK755
  clear HB
  have HO761 := n0_
  have BK755 := n1_
  have HB := n2_
  clear n0_ n1_ n2_
  (try clear hb)
  (try clear hb2)
  (try clear hk)
  (try clear hi)
  (try clear ho0)
  obtain ⟨Ao20, co20, eo20⟩ := Kd.R_slice HO761.out
  (first | subst eo20 | (injection eo20 with f1_ f2_ f3_; have f4_ := f1_.symm; have f5_ := f3_.symm; clear f1_ f2_ f3_; subst f4_; subst f5_))
  refine hK.out _ _ ⟨(blk_cell BK755.out 0).trans rfl, (blk_cell BK755.out 1).trans rfl⟩ (fun hHeld => ?_)
  clear hK K
  refine norm_ (a' := ?_) ?_ ?_
  rotate_left
  · show Act.put _ (some 20) _ = _
    simp only [Act.put, s_1, s_2, s_3, i64_w, i32_w]
    rfl
  refine pure_ (i := 4) (N := some 21) (v := ?_) (a' := ?_) (bs_ 6 63) rfl rfl (by kernel_rfl) (fun _ _ _ h => h) (Or.inl ⟨by rfl, ?_⟩) ?_ ?_
  rotate_left
  · intro w'
    go_simp
    with_reducible rfl
  rotate_left
  · simp only [Act.put, s_1, s_2, s_3, i64_w, i32_w]
    rfl
  refine done_ (by kernel_rfl) ?_
  try go_wp2
  go_loopg [22] kj2 (fun kq v22 w' => ∃ (x22_2 : Int), v22 = .int .i64 x22_2 ∧ Aside0 (spec_PlaceInRing.l0 kq a1 t759 (t759.length : Int) x22_2 = some (r1, r2)) ∧ Aside0 (kq ≤ kj2) ∧ Aside0 (Kd.R Kd.string 9 w' w.heap.size (fun _ => True) (.slice Ao20 t759.length co20) t759) ∧ Aside0 (w'.heap[gb755]? = some (.cells #[.int .i64 a0_0, .int .i64 a0_1] 23 (0, 0))) ∧ Aside0 (Below w.heap.size w w'))
  case atStart => refine ⟨(0), (by first | rfl | (simp; done) | (simp [*]; done)), H', ⟨Nat.le_refl _⟩, ⟨?_⟩, ⟨?_⟩, ⟨bB HB⟩⟩ <;> (with_reducible repeat (first | refine g_d ?_ _ | refine g_e ?_ | refine g_a ?_ _ | apply r_a | apply r_d | apply r_e)) <;> first | exact BK755.out | exact HO761.out
  clear H'
  try clear c14
  obtain ⟨x22_2, rfl, HA, HK2, HO_20, BK755, HB⟩ := hrel
  rcases gk with _ | k2
  · exact absurd HA.out (by simp [spec_PlaceInRing.l0])
  have H := HA.out
  clear HA
  simp only [spec_PlaceInRing.l0] at H
  by_cases c21 : x22_2 < (t759.length : Int)
  rotate_left
  · rw [if_neg c21] at H
    have c21b0 : decide (x22_2 < (t759.length : Int)) = false := decide_eq_false c21
    clear c21
    simp only [Option.some.injEq, Prod.mk.injEq] at H
    obtain ⟨rfl, rfl⟩ := H
    go_wp2
    go_ret2
    exact ⟨by first | rfl | (simp [errW_none, errW_some] <;> rfl) | (simp [*, errW_none, errW_some] <;> rfl), bB HB⟩

  rw [if_pos c21] at H
  have c21b0 : decide (x22_2 < (t759.length : Int)) = true := decide_eq_true c21
  clear c21
  by_cases c22 : 0 ≤ x22_2
  rotate_left
  · rw [if_neg c22] at H
    exact absurd H (by simp)
  rw [if_pos c22] at H
  have c22b0 : decide (0 ≤ x22_2) = true := decide_eq_true c22
  clear c22
  by_cases c23 : x22_2 < (t759.length : Int)
  rotate_left
  · rw [if_neg c23] at H
    exact absurd H (by simp)
  rw [if_pos c23] at H
  have c23b0 : decide (x22_2 < (t759.length : Int)) = true := decide_eq_true c23
  clear c23
  by_cases c24 : (rdOf ByteArray.empty t759 x22_2).toList = a1.toList
  rotate_left
  · rw [if_neg c24] at H
    have c24b0 : ((rdOf ByteArray.empty t759 x22_2).toList == a1.toList) = false := beq_eq_false_iff_ne.mpr c24
    have c24b1 : ((rdOf ByteArray.empty t759 x22_2).toList != a1.toList) = true := bne_iff_ne.mpr c24
    have H' := Aside0.mk H
    clear H
    have p762 : 0 ≤ (x22_2 : Int) := of_decide_eq_true (by first | (with_reducible assumption) | assumption)
    have q762 : x22_2 < (t759.length : Int) := of_decide_eq_true (by first | (with_reducible assumption) | assumption)
    obtain ⟨ad762, e762, hx762_0⟩ := Kd.at_string (Kd.R_reads' HO_20.out).2.2 x22_2 p762 q762
    cases e762
    replace p762 := eq_true p762
    replace q762 := eq_true q762
    go_wp2
    go_roundg k2
    case measure => have := HJ2.out; have := HK2.out; omega
    case rel => refine ⟨(wrap64 (x22_2 + 1)), (by first | rfl | (simp; done) | (simp [*]; done)), H', ⟨by have := HJ2.out; have := HK2.out; omega⟩, ⟨?_⟩, ⟨?_⟩, ⟨bB HB⟩⟩ <;> (with_reducible repeat (first | refine g_d ?_ _ | refine g_e ?_ | refine g_a ?_ _ | apply r_a | apply r_d | apply r_e)) <;> first | exact BK755.out | exact HO_20.out
  rw [if_pos c24] at H
  have c24b0 : ((rdOf ByteArray.empty t759 x22_2).toList == a1.toList) = true := beq_iff_eq.mpr c24
  have c24b1 : ((rdOf ByteArray.empty t759 x22_2).toList != a1.toList) = false := bne_eq_false_iff_eq.mpr c24
  clear c24
  simp only [Option.some.injEq, Prod.mk.injEq] at H
  obtain ⟨rfl, rfl⟩ := H
  have p762 : 0 ≤ (x22_2 : Int) := of_decide_eq_true (by first | (with_reducible assumption) | assumption)
  have q762 : x22_2 < (t759.length : Int) := of_decide_eq_true (by first | (with_reducible assumption) | assumption)
  obtain ⟨ad762, e762, hx762_0⟩ := Kd.at_string (Kd.R_reads' HO_20.out).2.2 x22_2 p762 q762
  cases e762
  replace p762 := eq_true p762
  replace q762 := eq_true q762
  go_wp2
  go_ret2
  exact ⟨by first | rfl | (simp [errW_none, errW_some] <;> rfl) | (simp [*, errW_none, errW_some] <;> rfl), bB HB⟩
/-! ### spec_DrawCodeAtPlace: function 43 -/
def spec_DrawCodeAtPlace.f (l0 : List Int) : Option (Int × Int × Int) := (spec_newCur.f l0).bind fun bt764 => ((spec_l1Cur_lock.f bt764.1 bt764.2.1 bt764.2.2).bind fun bt768 => ((spec_l1Cur_among.f bt764.1 bt768.2.2.1 bt768.2.2.2 (([0, 1, 2, 5, 7, 9, 24, 26, 63, 99, 100, (-1), 4611686018427387904] : List Int))).bind fun bt775 => (some (bt768.1, bt768.2.1, bt775.1))))
set_option maxHeartbeats 8000000 in
set_option maxRecDepth 100000 in
theorem spec_DrawCodeAtPlace.calls (A0 : Option Addr) (c0 : Nat) (l0 : List Int) (r1 : Int) (r2 : Int) (r3 : Int) (w : World) (hr0 : Kd.C (Kd.int .u8) w A0 l0.length l0) (hc0 : l0.length ≤ c0) (h : spec_DrawCodeAtPlace.f l0 = some (r1, r2, r3)) :
    Calls Tryz.prog 43 #[.slice A0 l0.length c0] w fun e w' => e = .returned (.tuple #[.agg #[.int .i64 r1, .int .i64 r2], .int .i64 r3]) ∧ Below w.heap.size w w' := by
  have hu23 := Tryz.underlying23
  have HR0 := Aside0.mk hr0
  have HC0 := Aside0.mk hc0
  clear hr0 hc0
  have HB := Aside0.mk (Below.refl w.heap.size w)
  have H : ((spec_newCur.f l0).bind fun bt764 => ((spec_l1Cur_lock.f bt764.1 bt764.2.1 bt764.2.2).bind fun bt768 => ((spec_l1Cur_among.f bt764.1 bt768.2.2.1 bt768.2.2.2 (([0, 1, 2, 5, 7, 9, 24, 26, 63, 99, 100, (-1), 4611686018427387904] : List Int))).bind fun bt775 => (some (bt768.1, bt768.2.1, bt775.1))))) = some (r1, r2, r3) := h
  clear h
  replace H := Option.bind_eq_some_iff.mp H
  obtain ⟨⟨t764, t765, t766⟩, A20, H⟩ := H
  try dsimp only at H
  have A2 := Aside0.mk A20
  clear A20
  replace H := Option.bind_eq_some_iff.mp H
  obtain ⟨⟨t768, t769, t770, t771⟩, A30, H⟩ := H
  try dsimp only at H
  have A3 := Aside0.mk A30
  clear A30
  obtain ⟨y772, hy772⟩ : ∃ y_ : List Int, y_ = (([0, 1, 2, 5, 7, 9, 24, 26, 63, 99, 100, (-1), 4611686018427387904] : List Int)) := ⟨_, rfl⟩
  replace H : ((spec_l1Cur_among.f t764 t770 t771 y772).bind fun bt775 => (some (t768, t769, bt775.1))) = some (r1, r2, r3) := by first | (rw [hy772]; with_reducible exact H) | (have H2_ := (Option.bind_some _ _).symm.trans H; rw [hy772]; with_reducible exact H2_) | (have H2_ := (Option.bind_some _ _).symm.trans H; with_reducible exact H2_) | with_reducible exact H | (rw [hy772]; exact H) | exact H
  have Ny772 := Aside0.mk hy772
  clear hy772
  replace H := Option.bind_eq_some_iff.mp H
  obtain ⟨⟨t775, t776, t777⟩, A40, H⟩ := H
  try dsimp only at H
  have A4 := Aside0.mk A40
  clear A40
  simp only [Option.some.injEq, Prod.mk.injEq] at H
  obtain ⟨rfl, rfl, rfl⟩ := H
  have hu81 := Tryz.underlying81
  go_enter Tryz.func43, Tryz.ntmps43
  go_wp2_with (first | ((with_reducible refine gate_dst (N := 2) rfl ?_); refine box_event ?hg (N := 2) ?hd (cs := #[.int .i64 0, .int .i64 0]) (t := 23) ?hr ?_; (case hd => rfl); (case hg => rfl); (case hr => first | (go_simp; done) | (go_simp; rfl)); intro gb763 hg w5 hbox hb; have n0_ := bsx hb HB; have n1_ := Aside0.mk (hbox); have n2_ := gwx hg HB; have n3_ := n2_; clear HB; have HB := n0_; have BK763 := n1_; have GW763 := n2_; have GE763 := n3_; clear n0_ n1_ n2_ n3_; clear hb hbox hg) | ((with_reducible refine gate_dst (N := 7) rfl ?_); refine box_event ?hg (N := 7) ?hd (cs := #[.slice A0 l0.length c0, .int .i64 0, .int .u64 0]) (t := 81) ?hr ?_; (case hd => rfl); (case hg => rfl); (case hr => first | (go_simp; done) | (go_simp; rfl)); intro g767 hg w6 hbox hb2; have hi : IsS81 w w6 g767 t764 t765 t766 := spec_newCur.is A2.out hbox (by rw [hg]; exact (below_size (bB HB))) HR0.out; have hb := below_step (bB HB) hb2; clear hbox hg; have n0_ := Aside0.mk (blk_below (g := gb763) (o := .cells #[.int .i64 0, .int .i64 0] 23 (0, 0)) (bK BK763) hb2); have n1_ := Aside0.mk (hb); have n2_ := Aside0.mk (hi); have n3_ := Aside0.mk (IsS81.ne_blk hi (blk_below (g := gb763) (o := .cells #[.int .i64 0, .int .i64 0] 23 (0, 0)) (bK BK763) hb2) (by decide)); have n4_ := Aside0.mk (Ne.symm (IsS81.ne_blk hi (blk_below (g := gb763) (o := .cells #[.int .i64 0, .int .i64 0] 23 (0, 0)) (bK BK763) hb2) (by decide))); clear BK763; clear HB; have BK763 := n0_; have HB := n1_; have HI767 := n2_; have NB767_763 := n3_; have NB763_767 := n4_; clear n0_ n1_ n2_ n3_ n4_; (try clear hb); (try clear hb2); (try clear hk); (try clear hi)) | ((with_reducible refine gate_callee (f := 87) rfl ?_); refine goesL_ (some 9) rfl rfl Tryz.func87 (by kernel_rfl) rfl #[.pointer (some ⟨g767, 0, none⟩)] rfl (by (try simp only [m_1, m_2, m_3]); first | done | rfl | (simp only [m_4, m_5]; rfl)) ?_; (with_reducible refine (spec_l1Cur_lock.calls g767 t764 t765 t766 t768 t769 t770 t771 w _ ?side1 ?side2 A3.out).mono ?_); (case side1 => exact sI HI767); (case side2 => exact sB HB); rintro e w7 ⟨rfl, hi, hb, hk⟩; refine ⟨_, rfl, ?_⟩; have n0_ := Aside0.mk (KeepBut.blk hk (bK BK763) NB763_767.out (by simp)); have n1_ := Aside0.mk (hb); have n2_ := Aside0.mk (hi); clear BK763; clear HB; clear HI767; have BK763 := n0_; have HB := n1_; have HI767 := n2_; clear n0_ n1_ n2_; (try clear hb); (try clear hb2); (try clear hk); (try clear hi)) | ((with_reducible refine gate_dst (N := 11) rfl ?_); refine Kd.R_lit (Kd.int .i64) _ 3 ?hg (N := 11) ?hd (xs := ([0, 1, 2, 5, 7, 9, 24, 26, 63, 99, 100, (-1), 4611686018427387904] : List Int)) (inner := [.int .i64 0, .int .i64 1, .int .i64 2, .int .i64 5, .int .i64 7, .int .i64 9, .int .i64 24, .int .i64 26, .int .i64 63, .int .i64 99, .int .i64 100, .int .i64 (-1), .int .i64 4611686018427387904]) (ok := fun _ => True) (okp := fun _ => True) ?hr ?hp (fun _ hk => hk) trivial (Below.refl _ _) (Nat.le_refl _) (by simp) ?_; (case hd => rfl); (case hg => rfl); (case hr => first | (go_simp; done) | (go_simp; rfl)); (case hp => exact (Reps.one (show Kd.M (Kd.int .i64) _ _ _ 0 [.int .i64 0] from rfl) (Reps.one (show Kd.M (Kd.int .i64) _ _ _ 1 [.int .i64 1] from rfl) (Reps.one (show Kd.M (Kd.int .i64) _ _ _ 2 [.int .i64 2] from rfl) (Reps.one (show Kd.M (Kd.int .i64) _ _ _ 5 [.int .i64 5] from rfl) (Reps.one (show Kd.M (Kd.int .i64) _ _ _ 7 [.int .i64 7] from rfl) (Reps.one (show Kd.M (Kd.int .i64) _ _ _ 9 [.int .i64 9] from rfl) (Reps.one (show Kd.M (Kd.int .i64) _ _ _ 24 [.int .i64 24] from rfl) (Reps.one (show Kd.M (Kd.int .i64) _ _ _ 26 [.int .i64 26] from rfl) (Reps.one (show Kd.M (Kd.int .i64) _ _ _ 63 [.int .i64 63] from rfl) (Reps.one (show Kd.M (Kd.int .i64) _ _ _ 99 [.int .i64 99] from rfl) (Reps.one (show Kd.M (Kd.int .i64) _ _ _ 100 [.int .i64 100] from rfl) (Reps.one (show Kd.M (Kd.int .i64) _ _ _ (-1) [.int .i64 (-1)] from rfl) (Reps.one (show Kd.M (Kd.int .i64) _ _ _ 4611686018427387904 [.int .i64 4611686018427387904] from rfl) (Reps.none _ _))))))))))))))); intro v773 w8 ho9 hb hg_ hnew_; clear hg_ hnew_; (first | rw [← Ny772.out] at ho9 | (simp only [Int.reduceToNat] at ho9; rw [← Ny772.out] at ho9)); have n0_ := Aside0.mk (Kd.R_lower ho9 (below_size (sB HB))); replace BK763 := bbx hb BK763; have n2_ := Aside0.mk (IsS81.below (sI HI767) hb); have n3_ := Aside0.mk (below_step (sB HB) hb); clear HI767; clear HB; have HO774 := n0_; have HI767 := n2_; have HB := n3_; clear n0_ n2_ n3_; clear hb ho9; obtain ⟨Ao10, co10, eo10⟩ := Kd.R_slice HO774.out; subst eo10) | ((with_reducible refine gate_callee (f := 89) rfl ?_); refine goesL_ (some 12) rfl rfl Tryz.func89 (by kernel_rfl) rfl #[.pointer (some ⟨g767, 0, none⟩), .slice Ao10 y772.length co10] rfl (by (try simp only [m_1, m_2, m_3]); first | done | rfl | (simp only [m_4, m_5]; rfl)) ?_; (with_reducible refine (spec_l1Cur_among.calls g767 t764 t770 t771 _ _ y772 t775 t776 t777 w _ ?side1 ?side2 ?side3 ?side4 ?side5 A4.out).mono ?_); (case side1 => exact sI HI767); (case side2 => exact sB HB); (case side3 => repeat (first | exact (Kd.R_reads' HO774.out).2.2 | (with_reducible refine Kd.C_alloc ?_ _) | (with_reducible refine Kd.C_drewN ?_ _) | (with_reducible refine Kd.C_drew ?_))); (case side4 => exact (Kd.R_reads' HO774.out).2.1); (case side5 => exact far_slice (IsS81.own_ne HI767.out HO774.out (by decide))); rintro e w11 ⟨rfl, hi, hb, hk⟩; refine ⟨_, rfl, ?_⟩; have n0_ := Aside0.mk (KeepBut.blk hk (bK BK763) NB763_767.out (by simp)); have n1_ := Aside0.mk (Kd.R_mono (Kd.R_keep (IsS81.apart (show IsS81 w _ g767 t764 t770 t771 from sI HI767) (by (with_reducible repeat (first | apply r_a | apply r_d | apply r_e)); exact HO774.out) (by decide)) hk (fun _ h => h.2)) (fun _ h => h.1)); have n2_ := Aside0.mk (hb); have n3_ := Aside0.mk (hi); clear BK763; clear HO774; clear HB; clear HI767; have BK763 := n0_; have HO774 := n1_; have HB := n2_; have HI767 := n3_; clear n0_ n1_ n2_ n3_; (try clear hb); (try clear hb2); (try clear hk); (try clear hi); have hnb12 := NB763_767.out; have hnc12 := NB767_763.out; have hcz13_0 := cz0 BK763; have hcz13_1 := cz1 BK763; have hfz13_0 := blk_frozen BK763.out 0; have hfz13_1 := blk_frozen BK763.out 1))
  refine bodyPost_ret (results_ct rfl _ _ gb763 23 #[.int .i64 t768, .int .i64 t769] (0, 0) _ rfl (by (with_reducible repeat (first | refine g_d ?_ _ | refine g_e ?_ | refine g_a ?_ _)); refine blk_put (cs := #[.int .i64 t768, .int .i64 0]) ?_ 1 _ rfl; (with_reducible repeat (first | refine g_d ?_ _ | refine g_e ?_ | refine g_a ?_ _)); refine blk_put (cs := #[.int .i64 0, .int .i64 0]) ?_ 0 _ rfl; (with_reducible repeat (first | refine g_d ?_ _ | refine g_e ?_ | refine g_a ?_ _)); exact BK763.out) Tryz.underlying23 rfl (by kernel_rfl)) rfl ?_
  exact ⟨by first | rfl | (simp [errW_none, errW_some] <;> rfl) | (simp [*, errW_none, errW_some] <;> rfl), sB HB⟩

/-! ### impl_CodeAtPlace: function 44 -/
def impl_CodeAtPlace.j0 : Nat → Int → Bool → Int → Int → Option (ByteArray × Bool)
  | 0, _, _, _, _ => none
  | k + 1, x1, x16, x779000, x779001 => if x16 = true then (some ((⟨#[]⟩ : ByteArray), false)) else ((impl_Lock_ring.f k x779000 x779001).bind fun t782 => ((impl_Lock_rounded.f k x779000 x779001 t782).bind fun t783 => (if 0 ≤ x1 then (if x1 < (t783.length : Int) then (some (rdOf ByteArray.empty t783 x1, true)) else (none)) else (none))))
def impl_CodeAtPlace.f (k : Nat) (a0_0 : Int) (a0_1 : Int) (a1 : Int) : Option (ByteArray × Bool) := (impl_isRounded.f k a0_0 a0_1).bind fun t779 => (if t779 = true then ((impl_Lock_count.f k a0_0 a0_1).bind fun t780 => ((impl_within.f a1 0 (wrap64 (t780 - 1))).bind fun t781 => (impl_CodeAtPlace.j0 k a1 (!t781) a0_0 a0_1))) else (impl_CodeAtPlace.j0 k a1 true a0_0 a0_1))
theorem impl_CodeAtPlace.mono_l : ∀ k, (∀ y0 y1 y2 y3, LeO (impl_CodeAtPlace.j0 k y0 y1 y2 y3) (impl_CodeAtPlace.j0 (k + 1) y0 y1 y2 y3))
  | 0 => fun _ _ _ _ r h => by simp [impl_CodeAtPlace.j0] at h
  | k + 1 => by
    have ih0 := impl_CodeAtPlace.mono_l k
    · intro y0 y1 y2 y3
      unfold impl_CodeAtPlace.j0
      repeat' first
      | (with_reducible exact ih0 _ _ _ _)
      | (with_reducible exact impl_Lock_count.mono _ _ _)
      | (with_reducible exact impl_Lock_ring.mono _ _ _)
      | (with_reducible exact impl_Lock_rounded.mono _ _ _ _)
      | (with_reducible exact impl_isRounded.mono _ _ _)
      | (with_reducible exact LeO.refl _)
      | (with_reducible exact LeO.none _)
      | (with_reducible refine LeO.ite ?_ ?_)
      | (with_reducible refine LeO.bind ?_ (fun _ => ?_))
      | exact ih0 _ _ _ _
      | exact impl_Lock_count.mono _ _ _
      | exact impl_Lock_ring.mono _ _ _
      | exact impl_Lock_rounded.mono _ _ _ _
      | exact impl_isRounded.mono _ _ _
      | exact LeO.none _
      | refine LeO.ite ?_ ?_
      | refine LeO.bind ?_ (fun _ => ?_)
theorem impl_CodeAtPlace.mono : ∀ a0 a1 a2 k, LeO (impl_CodeAtPlace.f k a0 a1 a2) (impl_CodeAtPlace.f (k + 1) a0 a1 a2) := by
  intro a0 a1 a2 k
  have ih0 := impl_CodeAtPlace.mono_l k
  unfold impl_CodeAtPlace.f
  repeat' first
      | (with_reducible exact ih0 _ _ _ _)
      | (with_reducible exact impl_Lock_count.mono _ _ _)
      | (with_reducible exact impl_Lock_ring.mono _ _ _)
      | (with_reducible exact impl_Lock_rounded.mono _ _ _ _)
      | (with_reducible exact impl_isRounded.mono _ _ _)
      | (with_reducible exact LeO.refl _)
      | (with_reducible exact LeO.none _)
      | (with_reducible refine LeO.ite ?_ ?_)
      | (with_reducible refine LeO.bind ?_ (fun _ => ?_))
      | exact ih0 _ _ _ _
      | exact impl_Lock_count.mono _ _ _
      | exact impl_Lock_ring.mono _ _ _
      | exact impl_Lock_rounded.mono _ _ _ _
      | exact impl_isRounded.mono _ _ _
      | exact LeO.none _
      | refine LeO.ite ?_ ?_
      | refine LeO.bind ?_ (fun _ => ?_)
def impl_CodeAtPlace.T3 : Bool × List (List Nat × List Nat) := (true, [([], []), ([], []), ([1], [1]), ([0, 2, 2], [0, 2]), ([], []), ([3, 4], [3, 4]), ([5], [5]), ([6, 3, 0, 1, 2, 3, 4, 5, 6], [6]), ([7, 0, 1, 2, 3, 4, 5, 6, 7], [])])
def impl_CodeAtPlace.B3 : List Nat := [0, 0, 2, 7, 0, 31, 63, 127, 255]
theorem impl_CodeAtPlace.tab3 : rtab .any (opsOf Tryz.f44 3) = impl_CodeAtPlace.T3 := by kernel_rfl
theorem impl_CodeAtPlace.bits3 : waitsOk impl_CodeAtPlace.T3.2 impl_CodeAtPlace.B3 = true := by kernel_rfl
set_option maxHeartbeats 8000000 in
set_option maxRecDepth 100000 in
theorem impl_CodeAtPlace.calls (k : Nat) (a0_0 : Int) (a0_1 : Int) (a1 : Int) (r1 : ByteArray) (r2 : Bool) (w : World) (h : impl_CodeAtPlace.f k a0_0 a0_1 a1 = some (r1, r2)) :
    Calls Tryz.prog 44 #[.agg #[.int .i64 a0_0, .int .i64 a0_1], .int .i64 a1] w fun e w' => e = .returned (.tuple #[.string r1, .bool r2]) ∧ Below w.heap.size w w' := by
  have hu23 := Tryz.underlying23
  have HB := Aside0.mk (Below.refl w.heap.size w)
  have H : ((impl_isRounded.f k a0_0 a0_1).bind fun t779 => (if t779 = true then ((impl_Lock_count.f k a0_0 a0_1).bind fun t780 => ((impl_within.f a1 0 (wrap64 (t780 - 1))).bind fun t781 => (impl_CodeAtPlace.j0 k a1 (!t781) a0_0 a0_1))) else (impl_CodeAtPlace.j0 k a1 true a0_0 a0_1))) = some (r1, r2) := h
  clear h
  have HC3 := Aside0.mk H
  clear H
  go_enter Tryz.func44, Tryz.ntmps44
  go_upto_region 1 with (first | ((with_reducible refine gate_dst (N := 2) rfl ?_); refine box_event ?hg (N := 2) ?hd (cs := #[.int .i64 a0_0, .int .i64 a0_1]) (t := 23) ?hr ?_; (case hd => rfl); (case hg => rfl); (case hr => first | (go_simp; done) | (go_simp; rfl)); intro gb778 hg w4 hbox hb; have n0_ := bsx hb HB; have n1_ := Aside0.mk (hbox); have n2_ := gwx hg HB; have n3_ := n2_; clear HB; have HB := n0_; have BK778 := n1_; have GW778 := n2_; have GE778 := n3_; clear n0_ n1_ n2_ n3_; clear hb hbox hg))
  (try simp only [Act.put, s_1, s_2, s_3])
  go_cut [16] (fun v16 wc => ∃ (kq : Nat) (x16_2 : Bool), v16 = .bool x16_2 ∧ Aside0 (impl_CodeAtPlace.j0 kq a1 x16_2 a0_0 a0_1 = some (r1, r2)) ∧ Aside0 (kq ≤ k) ∧ Aside0 (wc.heap[gb778]? = some (.cells #[.int .i64 a0_0, .int .i64 a0_1] 23 (0, 0))) ∧ Aside0 (Below w.heap.size w wc))
  case first =>
    have H := HC3.out
    clear HC3
    replace H := Option.bind_eq_some_iff.mp H
    obtain ⟨t779, A50, H⟩ := H
    try dsimp only at H
    have A5 := Aside0.mk A50
    clear A50
    by_cases c6 : t779 = true
    rotate_left
    · replace c6 := Bool.eq_false_iff.mpr c6
      subst c6
      rw [if_neg (show ¬ (false = true) by decide)] at H
      have H' := Aside0.mk H
      clear H
      have hcz13_0 := cz0 BK778
      have hcz13_1 := cz1 BK778
      have hfz13_0 := blk_frozen BK778.out 0
      have hfz13_1 := blk_frozen BK778.out 1
      go_wp2_with (first | ((with_reducible refine gate_callee (f := 50) rfl ?_); refine goesL_ (some 7) rfl rfl Tryz.func50 (by kernel_rfl) rfl #[.agg #[.int .i64 a0_0, .int .i64 a0_1]] rfl (by (try simp only [m_1, m_2, m_3]); first | done | rfl | (simp only [m_4, m_5]; rfl)) ?_; (with_reducible refine (impl_isRounded.calls k a0_0 a0_1 false _ A5.out).mono ?_); rintro e w14 ⟨rfl, hb⟩; refine ⟨_, rfl, ?_⟩; replace BK778 := bbx hb BK778; replace HB := bsx hb HB; skip; (try clear hb); (try clear hb2); (try clear hk); (try clear hi)))
      go_meet
      case rel => exact ⟨_, (true), (by first | rfl | (simp; done) | (simp [*]; done)), H', ⟨by first | omega | exact Nat.le_refl _⟩, ⟨bK BK778⟩, ⟨bB HB⟩⟩
    subst c6
    rw [if_pos rfl] at H
    replace H := Option.bind_eq_some_iff.mp H
    obtain ⟨t780, A70, H⟩ := H
    try dsimp only at H
    have A7 := Aside0.mk A70
    clear A70
    replace H := Option.bind_eq_some_iff.mp H
    obtain ⟨t781, A80, H⟩ := H
    try dsimp only at H
    have A8 := Aside0.mk A80
    clear A80
    have H' := Aside0.mk H
    clear H
    have hcz9_0 := cz0 BK778
    have hcz9_1 := cz1 BK778
    have hfz9_0 := blk_frozen BK778.out 0
    have hfz9_1 := blk_frozen BK778.out 1
    go_wp2_with (first | ((with_reducible refine gate_callee (f := 50) rfl ?_); refine goesL_ (some 7) rfl rfl Tryz.func50 (by kernel_rfl) rfl #[.agg #[.int .i64 a0_0, .int .i64 a0_1]] rfl (by (try simp only [m_1, m_2, m_3]); first | done | rfl | (simp only [m_4, m_5]; rfl)) ?_; (with_reducible refine (impl_isRounded.calls k a0_0 a0_1 true _ A5.out).mono ?_); rintro e w10 ⟨rfl, hb⟩; refine ⟨_, rfl, ?_⟩; replace BK778 := bbx hb BK778; replace HB := bsx hb HB; skip; (try clear hb); (try clear hb2); (try clear hk); (try clear hi); have hcz11_0 := cz0 BK778; have hcz11_1 := cz1 BK778; have hfz11_0 := blk_frozen BK778.out 0; have hfz11_1 := blk_frozen BK778.out 1) | (go_at_call 65; (with_reducible refine (impl_Lock_count.calls k a0_0 a0_1 t780 _ A7.out).mono ?_); rintro e w12 ⟨rfl, hb⟩; replace BK778 := bbx hb BK778; replace HB := bsx hb HB; skip; (try clear hb); (try clear hb2); (try clear hk); (try clear hi)) | (go_at_call 72; (with_reducible refine (impl_within.calls a1 0 (wrap64 (t780 - 1)) t781 _ A8.out).mono ?_); rintro e w' ⟨rfl, ⟨nd, rfl⟩⟩))
    go_meet
    case rel => exact ⟨_, (!t781), (by first | rfl | (simp; done) | (simp [*]; done)), H', ⟨by first | omega | exact Nat.le_refl _⟩, ⟨bK BK778⟩, ⟨bB HB⟩⟩
  clear HC3
  obtain ⟨kq, x16_2, rfl, HA, HJ2, BK778, HB⟩ := hcut
  rcases kq with _ | kj2
  · exact absurd HA.out (by simp [impl_CodeAtPlace.j0])
  have H := HA.out
  clear HA
  simp only [impl_CodeAtPlace.j0] at H
  by_cases c15 : x16_2 = true
  · subst c15
    rw [if_pos rfl] at H
    simp only [Option.some.injEq, Prod.mk.injEq] at H
    obtain ⟨rfl, rfl⟩ := H
    go_wp2
    go_ret2
    exact ⟨by first | rfl | (simp [errW_none, errW_some] <;> rfl) | (simp [*, errW_none, errW_some] <;> rfl), bB HB⟩
  replace c15 := Bool.eq_false_iff.mpr c15
  subst c15
  rw [if_neg (show ¬ (false = true) by decide)] at H
  replace H := Option.bind_eq_some_iff.mp H
  obtain ⟨t782, A160, H⟩ := H
  try dsimp only at H
  have A16 := Aside0.mk A160
  clear A160
  replace H := Option.bind_eq_some_iff.mp H
  obtain ⟨t783, A170, H⟩ := H
  try dsimp only at H
  have A17 := Aside0.mk A170
  clear A170
  by_cases c18 : 0 ≤ a1
  rotate_left
  · rw [if_neg c18] at H
    exact absurd H (by simp)

  rw [if_pos c18] at H
  have c18b0 : decide (0 ≤ a1) = true := decide_eq_true c18
  clear c18
  by_cases c19 : a1 < (t783.length : Int)
  rotate_left
  · rw [if_neg c19] at H
    exact absurd H (by simp)
  rw [if_pos c19] at H
  have c19b0 : decide (a1 < (t783.length : Int)) = true := decide_eq_true c19
  clear c19
  simp only [Option.some.injEq, Prod.mk.injEq] at H
  obtain ⟨rfl, rfl⟩ := H
  try go_wp2
  have n0_ := Aside0.mk (g_e BK778.out)
  have n1_ := Aside0.mk (b_e HB.out)
  clear BK778
  clear HB
  have BK778 := n0_
  have HB := n1_
  clear n0_ n1_
  refine start_ (n := 9) (S := fun w' => w'.cell? ⟨gb778, 0, none⟩ = some (.int .i64 a0_0) ∧ w'.cell? ⟨gb778, 1, none⟩ = some (.int .i64 a0_1) ∧ True) (ds := []) (bs_ 9 0) (by kernel_rfl) rfl rfl ⟨(blk_cell BK778.out 0).trans rfl, (blk_cell BK778.out 1).trans rfl, trivial⟩ (fun hHeld => ?_); refine with_tabW impl_CodeAtPlace.tab3 impl_CodeAtPlace.bits3 (fun HT_ HW_ => ?_)
  generalize wc.drew = w20 at BK778 HB hHeld ⊢
  refine pua 4 21 (bs_ 9 16) HT_ ?_
  refine tk_ 0 17 (bs_ 9 17) rfl rfl HT_ HW_ (by kernel_rfl) (fun _ _ _ h => h) (by rfl) hHeld (by rintro w' ⟨s0, s1, s2⟩; go_simp; with_reducible rfl) (by simp only [Act.put, s_1, s_2, s_3, i64_w, i32_w]; rfl) ?_
  refine tk_ 1 18 (bs_ 9 19) rfl rfl HT_ HW_ (by kernel_rfl) (fun _ _ _ h => h) (by rfl) hHeld (by rintro w' ⟨s0, s1, s2⟩; go_simp; with_reducible rfl) (by simp only [Act.put, s_1, s_2, s_3, i64_w, i32_w]; rfl) ?_
  refine one_ (i := 2) (N := some 19) (bs_ 9 23) rfl rfl (one_of HT_.out (by kernel_rfl)) (by decide) (fun K hK => ?_)
  refine goes_ Tryz.func51 (by kernel_rfl) rfl #[.agg #[.int .i64 a0_0, .int .i64 a0_1]] (by rfl) rfl rfl (by (try simp only [m_1, m_2, m_3]); first | done | rfl | (simp only [m_4, m_5]; rfl)) ?_
  with_reducible refine (impl_Lock_ring.calls kj2 a0_0 a0_1 t782 _ A16.out).mono ?_
  rintro e w21 ⟨rfl, hb⟩
  refine ⟨_, rfl, ?_⟩
  have n0_ := bbx hb BK778
  have n1_ := bsx hb HB
  clear BK778
  clear HB
  have BK778 := n0_
  have HB := n1_
  clear n0_ n1_
  (try clear hb)
  (try clear hb2)
  (try clear hk)
  (try clear hi)
  refine hK.out _ _ ⟨(blk_cell BK778.out 0).trans rfl, (blk_cell BK778.out 1).trans rfl, trivial⟩ (fun hHeld => ?_)
  clear hK K
  refine norm_ (a' := ?_) ?_ ?_
  rotate_left
  · show Act.put _ (some 19) _ = _
    simp only [Act.put, s_1, s_2, s_3, i64_w, i32_w]
    rfl
  refine one_ (i := 3) (N := some 20) (bs_ 9 31) rfl rfl (one_of HT_.out (by kernel_rfl)) (by decide) (fun K hK => ?_)
  refine goes_ Tryz.func84 (by kernel_rfl) rfl #[.agg #[.int .i64 a0_0, .int .i64 a0_1], .string t782] (by rfl) rfl rfl (by (try simp only [m_1, m_2, m_3]); first | done | rfl | (simp only [m_4, m_5]; rfl)) ?_
  with_reducible refine (impl_Lock_rounded.calls kj2 a0_0 a0_1 t782 t783 _ A17.out).mono ?_
  rintro e w22 ⟨v784, rfl, ho0, hb⟩
  refine ⟨_, rfl, ?_⟩
  have n0_ := Aside0.mk (Kd.R_lower ho0 (below_size (bB HB)))
  have n1_ := bbx hb BK778
  have n2_ := bsx hb HB
  clear BK778
  clear HB
  have HO785 := n0_
  have BK778 := n1_
  have HB := n2_
  clear n0_ n1_ n2_
  (try clear hb)
  (try clear hb2)
  (try clear hk)
  (try clear hi)
  (try clear ho0)
  obtain ⟨Ao23, co23, eo23⟩ := Kd.R_slice HO785.out
  (first | subst eo23 | (injection eo23 with f1_ f2_ f3_; have f4_ := f1_.symm; have f5_ := f3_.symm; clear f1_ f2_ f3_; subst f4_; subst f5_))
  have p786 : 0 ≤ (a1 : Int) := of_decide_eq_true (by first | (with_reducible assumption) | assumption)
  have q786 : a1 < (t783.length : Int) := of_decide_eq_true (by first | (with_reducible assumption) | assumption)
  obtain ⟨ad786, e786, hx786_0⟩ := Kd.at_string (Kd.R_reads' HO785.out).2.2 a1 p786 q786
  cases e786
  replace p786 := eq_true p786
  replace q786 := eq_true q786
  refine hK.out _ _ ⟨(blk_cell BK778.out 0).trans rfl, (blk_cell BK778.out 1).trans rfl, trivial⟩ (fun hHeld => ?_)
  clear hK K
  refine norm_ (a' := ?_) ?_ ?_
  rotate_left
  · show Act.put _ (some 20) _ = _
    simp only [Act.put, s_1, s_2, s_3, i64_w, i32_w]
    rfl
  refine pua 5 22 (bs_ 9 63) HT_ ?_
  refine one_ (i := 6) (N := some 23) (bs_ 9 127) rfl rfl (one_of HT_.out (by kernel_rfl)) (by decide) (fun K hK => ?_)
  refine value_ (w1 := ?_) (v := ?_) (by rfl) rfl ?_ ?_
  rotate_left 2
  · go_simp
    constructor
    rotate_left
    · rfl
    rfl
  refine hK.out _ _ ⟨(blk_cell BK778.out 0).trans rfl, (blk_cell BK778.out 1).trans rfl, trivial⟩ (fun hHeld => ?_)
  clear hK K
  refine norm_ (a' := ?_) ?_ ?_
  rotate_left
  · show Act.put _ (some 23) _ = _
    simp only [Act.put, s_1, s_2, s_3, i64_w, i32_w]
    rfl
  refine pua 7 4 (bs_ 9 255) HT_ ?_
  refine pua 8 5 (bs_ 9 511) HT_ ?_
  refine done_ (done_of HT_.out (by kernel_rfl)) ?_
  try go_wp2
  go_ret2
  exact ⟨by first | rfl | (simp [errW_none, errW_some] <;> rfl) | (simp [*, errW_none, errW_some] <;> rfl), bB HB⟩
/-! ### spec_CodeAtPlace: function 45 -/
def spec_CodeAtPlace.j0 : Nat → Int → Bool → Int → Int → Option (ByteArray × Bool)
  | 0, _, _, _, _ => none
  | k + 1, x1, x16, x788000, x788001 => if x16 = true then (some ((⟨#[]⟩ : ByteArray), false)) else ((spec_riLeast.f k x788000 x788001).bind fun t791 => ((spec_riCodes.f k x788000 x788001 t791 true).bind fun t792 => (if 0 ≤ x1 then (if x1 < (t792.length : Int) then (some (rdOf ByteArray.empty t792 x1, true)) else (none)) else (none))))
def spec_CodeAtPlace.f (k : Nat) (a0_0 : Int) (a0_1 : Int) (a1 : Int) : Option (ByteArray × Bool) := (spec_riGood.f k a0_0 a0_1).bind fun t788 => (if t788 = true then ((spec_whCount.f k a0_0 a0_1).bind fun t789 => ((spec_l1In.f a1 0 (wrap64 (t789 - 1))).bind fun t790 => (spec_CodeAtPlace.j0 k a1 (!t790) a0_0 a0_1))) else (spec_CodeAtPlace.j0 k a1 true a0_0 a0_1))
theorem spec_CodeAtPlace.mono_l : ∀ k, (∀ y0 y1 y2 y3, LeO (spec_CodeAtPlace.j0 k y0 y1 y2 y3) (spec_CodeAtPlace.j0 (k + 1) y0 y1 y2 y3))
  | 0 => fun _ _ _ _ r h => by simp [spec_CodeAtPlace.j0] at h
  | k + 1 => by
    have ih0 := spec_CodeAtPlace.mono_l k
    · intro y0 y1 y2 y3
      unfold spec_CodeAtPlace.j0
      repeat' first
      | (with_reducible exact ih0 _ _ _ _)
      | (with_reducible exact spec_riCodes.mono _ _ _ _ _)
      | (with_reducible exact spec_riGood.mono _ _ _)
      | (with_reducible exact spec_riLeast.mono _ _ _)
      | (with_reducible exact spec_whCount.mono _ _ _)
      | (with_reducible exact LeO.refl _)
      | (with_reducible exact LeO.none _)
      | (with_reducible refine LeO.ite ?_ ?_)
      | (with_reducible refine LeO.bind ?_ (fun _ => ?_))
      | exact ih0 _ _ _ _
      | exact spec_riCodes.mono _ _ _ _ _
      | exact spec_riGood.mono _ _ _
      | exact spec_riLeast.mono _ _ _
      | exact spec_whCount.mono _ _ _
      | exact LeO.none _
      | refine LeO.ite ?_ ?_
      | refine LeO.bind ?_ (fun _ => ?_)
theorem spec_CodeAtPlace.mono : ∀ a0 a1 a2 k, LeO (spec_CodeAtPlace.f k a0 a1 a2) (spec_CodeAtPlace.f (k + 1) a0 a1 a2) := by
  intro a0 a1 a2 k
  have ih0 := spec_CodeAtPlace.mono_l k
  unfold spec_CodeAtPlace.f
  repeat' first
      | (with_reducible exact ih0 _ _ _ _)
      | (with_reducible exact spec_riCodes.mono _ _ _ _ _)
      | (with_reducible exact spec_riGood.mono _ _ _)
      | (with_reducible exact spec_riLeast.mono _ _ _)
      | (with_reducible exact spec_whCount.mono _ _ _)
      | (with_reducible exact LeO.refl _)
      | (with_reducible exact LeO.none _)
      | (with_reducible refine LeO.ite ?_ ?_)
      | (with_reducible refine LeO.bind ?_ (fun _ => ?_))
      | exact ih0 _ _ _ _
      | exact spec_riCodes.mono _ _ _ _ _
      | exact spec_riGood.mono _ _ _
      | exact spec_riLeast.mono _ _ _
      | exact spec_whCount.mono _ _ _
      | exact LeO.none _
      | refine LeO.ite ?_ ?_
      | refine LeO.bind ?_ (fun _ => ?_)
def spec_CodeAtPlace.T3 : Bool × List (List Nat × List Nat) := (true, [([], []), ([], []), ([1], [1]), ([0, 2, 2], [0, 2]), ([], []), ([3, 4], [3, 4]), ([5], [5]), ([6, 3, 0, 1, 2, 3, 4, 5, 6], [6]), ([7, 0, 1, 2, 3, 4, 5, 6, 7], [])])
def spec_CodeAtPlace.B3 : List Nat := [0, 0, 2, 7, 0, 31, 63, 127, 255]
theorem spec_CodeAtPlace.tab3 : rtab .any (opsOf Tryz.f45 3) = spec_CodeAtPlace.T3 := by kernel_rfl
theorem spec_CodeAtPlace.bits3 : waitsOk spec_CodeAtPlace.T3.2 spec_CodeAtPlace.B3 = true := by kernel_rfl
set_option maxHeartbeats 8000000 in
set_option maxRecDepth 100000 in
theorem spec_CodeAtPlace.calls (k : Nat) (a0_0 : Int) (a0_1 : Int) (a1 : Int) (r1 : ByteArray) (r2 : Bool) (w : World) (h : spec_CodeAtPlace.f k a0_0 a0_1 a1 = some (r1, r2)) :
    Calls Tryz.prog 45 #[.agg #[.int .i64 a0_0, .int .i64 a0_1], .int .i64 a1] w fun e w' => e = .returned (.tuple #[.string r1, .bool r2]) ∧ Below w.heap.size w w' := by
  have hu23 := Tryz.underlying23
  have HB := Aside0.mk (Below.refl w.heap.size w)
  have H : ((spec_riGood.f k a0_0 a0_1).bind fun t788 => (if t788 = true then ((spec_whCount.f k a0_0 a0_1).bind fun t789 => ((spec_l1In.f a1 0 (wrap64 (t789 - 1))).bind fun t790 => (spec_CodeAtPlace.j0 k a1 (!t790) a0_0 a0_1))) else (spec_CodeAtPlace.j0 k a1 true a0_0 a0_1))) = some (r1, r2) := h
  clear h
  have HC3 := Aside0.mk H
  clear H
  go_enter Tryz.func45, Tryz.ntmps45
  go_upto_region 1 with (first | ((with_reducible refine gate_dst (N := 2) rfl ?_); refine box_event ?hg (N := 2) ?hd (cs := #[.int .i64 a0_0, .int .i64 a0_1]) (t := 23) ?hr ?_; (case hd => rfl); (case hg => rfl); (case hr => first | (go_simp; done) | (go_simp; rfl)); intro gb787 hg w4 hbox hb; have n0_ := bsx hb HB; have n1_ := Aside0.mk (hbox); have n2_ := gwx hg HB; have n3_ := n2_; clear HB; have HB := n0_; have BK787 := n1_; have GW787 := n2_; have GE787 := n3_; clear n0_ n1_ n2_ n3_; clear hb hbox hg))
  (try simp only [Act.put, s_1, s_2, s_3])
  go_cut [16] (fun v16 wc => ∃ (kq : Nat) (x16_2 : Bool), v16 = .bool x16_2 ∧ Aside0 (spec_CodeAtPlace.j0 kq a1 x16_2 a0_0 a0_1 = some (r1, r2)) ∧ Aside0 (kq ≤ k) ∧ Aside0 (wc.heap[gb787]? = some (.cells #[.int .i64 a0_0, .int .i64 a0_1] 23 (0, 0))) ∧ Aside0 (Below w.heap.size w wc))
  case first =>
    have H := HC3.out
    clear HC3
    replace H := Option.bind_eq_some_iff.mp H
    obtain ⟨t788, A50, H⟩ := H
    try dsimp only at H
    have A5 := Aside0.mk A50
    clear A50
    by_cases c6 : t788 = true
    rotate_left
    · replace c6 := Bool.eq_false_iff.mpr c6
      subst c6
      rw [if_neg (show ¬ (false = true) by decide)] at H
      have H' := Aside0.mk H
      clear H
      have hcz13_0 := cz0 BK787
      have hcz13_1 := cz1 BK787
      have hfz13_0 := blk_frozen BK787.out 0
      have hfz13_1 := blk_frozen BK787.out 1
      go_wp2_with (first | ((with_reducible refine gate_callee (f := 52) rfl ?_); refine goesL_ (some 7) rfl rfl Tryz.func52 (by kernel_rfl) rfl #[.agg #[.int .i64 a0_0, .int .i64 a0_1]] rfl (by (try simp only [m_1, m_2, m_3]); first | done | rfl | (simp only [m_4, m_5]; rfl)) ?_; (with_reducible refine (spec_riGood.calls k a0_0 a0_1 false _ A5.out).mono ?_); rintro e w14 ⟨rfl, hb⟩; refine ⟨_, rfl, ?_⟩; replace BK787 := bbx hb BK787; replace HB := bsx hb HB; skip; (try clear hb); (try clear hb2); (try clear hk); (try clear hi)))
      go_meet
      case rel => exact ⟨_, (true), (by first | rfl | (simp; done) | (simp [*]; done)), H', ⟨by first | omega | exact Nat.le_refl _⟩, ⟨bK BK787⟩, ⟨bB HB⟩⟩
    subst c6
    rw [if_pos rfl] at H
    replace H := Option.bind_eq_some_iff.mp H
    obtain ⟨t789, A70, H⟩ := H
    try dsimp only at H
    have A7 := Aside0.mk A70
    clear A70
    replace H := Option.bind_eq_some_iff.mp H
    obtain ⟨t790, A80, H⟩ := H
    try dsimp only at H
    have A8 := Aside0.mk A80
    clear A80
    have H' := Aside0.mk H
    clear H
    have hcz9_0 := cz0 BK787
    have hcz9_1 := cz1 BK787
    have hfz9_0 := blk_frozen BK787.out 0
    have hfz9_1 := blk_frozen BK787.out 1
    go_wp2_with (first | ((with_reducible refine gate_callee (f := 52) rfl ?_); refine goesL_ (some 7) rfl rfl Tryz.func52 (by kernel_rfl) rfl #[.agg #[.int .i64 a0_0, .int .i64 a0_1]] rfl (by (try simp only [m_1, m_2, m_3]); first | done | rfl | (simp only [m_4, m_5]; rfl)) ?_; (with_reducible refine (spec_riGood.calls k a0_0 a0_1 true _ A5.out).mono ?_); rintro e w10 ⟨rfl, hb⟩; refine ⟨_, rfl, ?_⟩; replace BK787 := bbx hb BK787; replace HB := bsx hb HB; skip; (try clear hb); (try clear hb2); (try clear hk); (try clear hi); have hcz11_0 := cz0 BK787; have hcz11_1 := cz1 BK787; have hfz11_0 := blk_frozen BK787.out 0; have hfz11_1 := blk_frozen BK787.out 1) | (go_at_call 63; (with_reducible refine (spec_whCount.calls k a0_0 a0_1 t789 _ A7.out).mono ?_); rintro e w12 ⟨rfl, hb⟩; replace BK787 := bbx hb BK787; replace HB := bsx hb HB; skip; (try clear hb); (try clear hb2); (try clear hk); (try clear hi)) | (go_at_call 73; (with_reducible refine (spec_l1In.calls a1 0 (wrap64 (t789 - 1)) t790 _ A8.out).mono ?_); rintro e w' ⟨rfl, ⟨nd, rfl⟩⟩))
    go_meet
    case rel => exact ⟨_, (!t790), (by first | rfl | (simp; done) | (simp [*]; done)), H', ⟨by first | omega | exact Nat.le_refl _⟩, ⟨bK BK787⟩, ⟨bB HB⟩⟩
  clear HC3
  obtain ⟨kq, x16_2, rfl, HA, HJ2, BK787, HB⟩ := hcut
  rcases kq with _ | kj2
  · exact absurd HA.out (by simp [spec_CodeAtPlace.j0])
  have H := HA.out
  clear HA
  simp only [spec_CodeAtPlace.j0] at H
  by_cases c15 : x16_2 = true
  · subst c15
    rw [if_pos rfl] at H
    simp only [Option.some.injEq, Prod.mk.injEq] at H
    obtain ⟨rfl, rfl⟩ := H
    go_wp2
    go_ret2
    exact ⟨by first | rfl | (simp [errW_none, errW_some] <;> rfl) | (simp [*, errW_none, errW_some] <;> rfl), bB HB⟩
  replace c15 := Bool.eq_false_iff.mpr c15
  subst c15
  rw [if_neg (show ¬ (false = true) by decide)] at H
  replace H := Option.bind_eq_some_iff.mp H
  obtain ⟨t791, A160, H⟩ := H
  try dsimp only at H
  have A16 := Aside0.mk A160
  clear A160
  replace H := Option.bind_eq_some_iff.mp H
  obtain ⟨t792, A170, H⟩ := H
  try dsimp only at H
  have A17 := Aside0.mk A170
  clear A170
  by_cases c18 : 0 ≤ a1
  rotate_left
  · rw [if_neg c18] at H
    exact absurd H (by simp)

  rw [if_pos c18] at H
  have c18b0 : decide (0 ≤ a1) = true := decide_eq_true c18
  clear c18
  by_cases c19 : a1 < (t792.length : Int)
  rotate_left
  · rw [if_neg c19] at H
    exact absurd H (by simp)
  rw [if_pos c19] at H
  have c19b0 : decide (a1 < (t792.length : Int)) = true := decide_eq_true c19
  clear c19
  simp only [Option.some.injEq, Prod.mk.injEq] at H
  obtain ⟨rfl, rfl⟩ := H
  try go_wp2
  have n0_ := Aside0.mk (g_e BK787.out)
  have n1_ := Aside0.mk (b_e HB.out)
  clear BK787
  clear HB
  have BK787 := n0_
  have HB := n1_
  clear n0_ n1_
  refine start_ (n := 9) (S := fun w' => w'.cell? ⟨gb787, 0, none⟩ = some (.int .i64 a0_0) ∧ w'.cell? ⟨gb787, 1, none⟩ = some (.int .i64 a0_1) ∧ True) (ds := []) (bs_ 9 0) (by kernel_rfl) rfl rfl ⟨(blk_cell BK787.out 0).trans rfl, (blk_cell BK787.out 1).trans rfl, trivial⟩ (fun hHeld => ?_); refine with_tabW spec_CodeAtPlace.tab3 spec_CodeAtPlace.bits3 (fun HT_ HW_ => ?_)
  generalize wc.drew = w20 at BK787 HB hHeld ⊢
  refine pua 4 21 (bs_ 9 16) HT_ ?_
  refine tk_ 0 17 (bs_ 9 17) rfl rfl HT_ HW_ (by kernel_rfl) (fun _ _ _ h => h) (by rfl) hHeld (by rintro w' ⟨s0, s1, s2⟩; go_simp; with_reducible rfl) (by simp only [Act.put, s_1, s_2, s_3, i64_w, i32_w]; rfl) ?_
  refine tk_ 1 18 (bs_ 9 19) rfl rfl HT_ HW_ (by kernel_rfl) (fun _ _ _ h => h) (by rfl) hHeld (by rintro w' ⟨s0, s1, s2⟩; go_simp; with_reducible rfl) (by simp only [Act.put, s_1, s_2, s_3, i64_w, i32_w]; rfl) ?_
  refine one_ (i := 2) (N := some 19) (bs_ 9 23) rfl rfl (one_of HT_.out (by kernel_rfl)) (by decide) (fun K hK => ?_)
  refine goes_ Tryz.func53 (by kernel_rfl) rfl #[.agg #[.int .i64 a0_0, .int .i64 a0_1]] (by rfl) rfl rfl (by (try simp only [m_1, m_2, m_3]); first | done | rfl | (simp only [m_4, m_5]; rfl)) ?_
  with_reducible refine (spec_riLeast.calls kj2 a0_0 a0_1 t791 _ A16.out).mono ?_
  rintro e w21 ⟨rfl, hb⟩
  refine ⟨_, rfl, ?_⟩
  have n0_ := bbx hb BK787
  have n1_ := bsx hb HB
  clear BK787
  clear HB
  have BK787 := n0_
  have HB := n1_
  clear n0_ n1_
  (try clear hb)
  (try clear hb2)
  (try clear hk)
  (try clear hi)
  refine hK.out _ _ ⟨(blk_cell BK787.out 0).trans rfl, (blk_cell BK787.out 1).trans rfl, trivial⟩ (fun hHeld => ?_)
  clear hK K
  refine norm_ (a' := ?_) ?_ ?_
  rotate_left
  · show Act.put _ (some 19) _ = _
    simp only [Act.put, s_1, s_2, s_3, i64_w, i32_w]
    rfl
  refine one_ (i := 3) (N := some 20) (bs_ 9 31) rfl rfl (one_of HT_.out (by kernel_rfl)) (by decide) (fun K hK => ?_)
  refine goes_ Tryz.func77 (by kernel_rfl) rfl #[.agg #[.int .i64 a0_0, .int .i64 a0_1], .string t791, .bool true] (by rfl) rfl rfl (by (try simp only [m_1, m_2, m_3]); first | done | rfl | (simp only [m_4, m_5]; rfl)) ?_
  with_reducible refine (spec_riCodes.calls kj2 a0_0 a0_1 t791 true t792 _ A17.out).mono ?_
  rintro e w22 ⟨v793, rfl, ho0, hb⟩
  refine ⟨_, rfl, ?_⟩
  have n0_ := Aside0.mk (Kd.R_lower ho0 (below_size (bB HB)))
  have n1_ := bbx hb BK787
  have n2_ := bsx hb HB
  clear BK787
  clear HB
  have HO794 := n0_
  have BK787 := n1_
  have HB := n2_
  clear n0_ n1_ n2_
  (try clear hb)
  (try clear hb2)
  (try clear hk)
  (try clear hi)
  (try clear ho0)
  obtain ⟨Ao23, co23, eo23⟩ := Kd.R_slice HO794.out
  (first | subst eo23 | (injection eo23 with f1_ f2_ f3_; have f4_ := f1_.symm; have f5_ := f3_.symm; clear f1_ f2_ f3_; subst f4_; subst f5_))
  have p795 : 0 ≤ (a1 : Int) := of_decide_eq_true (by first | (with_reducible assumption) | assumption)
  have q795 : a1 < (t792.length : Int) := of_decide_eq_true (by first | (with_reducible assumption) | assumption)
  obtain ⟨ad795, e795, hx795_0⟩ := Kd.at_string (Kd.R_reads' HO794.out).2.2 a1 p795 q795
  cases e795
  replace p795 := eq_true p795
  replace q795 := eq_true q795
  refine hK.out _ _ ⟨(blk_cell BK787.out 0).trans rfl, (blk_cell BK787.out 1).trans rfl, trivial⟩ (fun hHeld => ?_)
  clear hK K
  refine norm_ (a' := ?_) ?_ ?_
  rotate_left
  · show Act.put _ (some 20) _ = _
    simp only [Act.put, s_1, s_2, s_3, i64_w, i32_w]
    rfl
  refine pua 5 22 (bs_ 9 63) HT_ ?_
  refine one_ (i := 6) (N := some 23) (bs_ 9 127) rfl rfl (one_of HT_.out (by kernel_rfl)) (by decide) (fun K hK => ?_)
  refine value_ (w1 := ?_) (v := ?_) (by rfl) rfl ?_ ?_
  rotate_left 2
  · go_simp
    constructor
    rotate_left
    · rfl
    rfl
  refine hK.out _ _ ⟨(blk_cell BK787.out 0).trans rfl, (blk_cell BK787.out 1).trans rfl, trivial⟩ (fun hHeld => ?_)
  clear hK K
  refine norm_ (a' := ?_) ?_ ?_
  rotate_left
  · show Act.put _ (some 23) _ = _
    simp only [Act.put, s_1, s_2, s_3, i64_w, i32_w]
    rfl
  refine pua 7 4 (bs_ 9 255) HT_ ?_
  refine pua 8 5 (bs_ 9 511) HT_ ?_
  refine done_ (done_of HT_.out (by kernel_rfl)) ?_
  try go_wp2
  go_ret2
  exact ⟨by first | rfl | (simp [errW_none, errW_some] <;> rfl) | (simp [*, errW_none, errW_some] <;> rfl), bB HB⟩
end Go.Proofs.YtmpcefcgboljkaaGreat.P
