-- Texts of this session's own program (wip/dr.py), which runs the kit's printer.
import Derived.Test.YtmpcefcgboljkaaPx0
import Derived.Test.YtmpcefcgboljkaaPx1
import Derived.Test.YtmpcefcgboljkaaPx20
import Derived.Test.YtmpcefcgboljkaaPx44
namespace Go.Proofs.Ytmpcefcgboljkaa.P
open Go.RowKit Go.Proofs.YtmpcefcgboljkaaW.PrintWords Go.Proofs.YtmpcefcgboljkaaW.PrintLast Go.Proofs.YtmpcefcgboljkaaW.PrintMore
attribute [local go_sem] max2_int min2_int max_two min_two max_three min_three max_four min_four   -- for this text's walks alone
set_option linter.unusedVariables false
set_option linter.unusedSimpArgs false

/-! ### spec_RaisedRing: function 22 -/
mutual
def spec_RaisedRing.j0 : Nat → ByteArray → Int → Bool → Int → Int → Option (ByteArray × Bool)
  | 0, _, _, _, _, _ => none
  | k + 1, x1, x2, x27, x460000, x460001 => if x27 = true then (some ((⟨#[]⟩ : ByteArray), false)) else ((spec_whDigits.f k x1).bind fun t463 => (spec_RaisedRing.l0 k x2 (⟨#[]⟩ : ByteArray) t463 (t463.length : Int) 0 x460000 x460001))
def spec_RaisedRing.l0 : Nat → Int → ByteArray → List Int → Int → Int → Int → Int → Option (ByteArray × Bool)
  | 0, _, _, _, _, _, _, _ => none
  | k + 1, x2, x8, x29, x30, x31, x460000, x460001 => if x31 < x30 then (if 0 ≤ x31 then (if x31 < (x29.length : Int) then (if x460001 = 0 then (none) else ((spec_l1Num.f k (Int.tmod (wrap64 ((rd x29 x31) + x2)) x460001)).bind fun t467 => (if x8.size + t467.size ≤ 9223372036854775807 then (spec_RaisedRing.l0 k x2 (x8 ++ t467) x29 x30 (wrap64 (x31 + 1)) x460000 x460001) else (none)))) else (none)) else (none)) else (some (x8, true))
end
def spec_RaisedRing.f (k : Nat) (a0_0 : Int) (a0_1 : Int) (a1 : ByteArray) (a2 : Int) : Option (ByteArray × Bool) := (spec_riGood.f k a0_0 a0_1).bind fun t460 => (if t460 = true then ((spec_riRing.f k a0_0 a0_1 a1).bind fun t461 => (if t461 = true then ((spec_l1In.f a2 0 (wrap64 (a0_1 - 1))).bind fun t462 => (spec_RaisedRing.j0 k a1 a2 (!t462) a0_0 a0_1)) else (spec_RaisedRing.j0 k a1 a2 true a0_0 a0_1))) else (spec_RaisedRing.j0 k a1 a2 true a0_0 a0_1))
theorem spec_RaisedRing.mono_l : ∀ k, (∀ y0 y1 y2 y3 y4, LeO (spec_RaisedRing.j0 k y0 y1 y2 y3 y4) (spec_RaisedRing.j0 (k + 1) y0 y1 y2 y3 y4)) ∧ (∀ y0 y1 y2 y3 y4 y5 y6, LeO (spec_RaisedRing.l0 k y0 y1 y2 y3 y4 y5 y6) (spec_RaisedRing.l0 (k + 1) y0 y1 y2 y3 y4 y5 y6))
  | 0 => ⟨fun _ _ _ _ _ r h => by simp [spec_RaisedRing.j0] at h, fun _ _ _ _ _ _ _ r h => by simp [spec_RaisedRing.l0] at h⟩
  | k + 1 => by
    obtain ⟨ih0, ih1⟩ := spec_RaisedRing.mono_l k
    refine ⟨?_, ?_⟩
    rotate_left
    · intro y0 y1 y2 y3 y4 y5 y6
      unfold spec_RaisedRing.l0
      repeat' first
      | (with_reducible exact ih0 _ _ _ _ _)
      | (with_reducible exact ih1 _ _ _ _ _ _ _)
      | (with_reducible exact spec_l1Num.mono _ _)
      | (with_reducible exact spec_riGood.mono _ _ _)
      | (with_reducible exact spec_riRing.mono _ _ _ _)
      | (with_reducible exact spec_whDigits.mono _ _)
      | (with_reducible exact LeO.refl _)
      | (with_reducible exact LeO.none _)
      | (with_reducible refine LeO.ite ?_ ?_)
      | (with_reducible refine LeO.bind ?_ (fun _ => ?_))
      | exact ih0 _ _ _ _ _
      | exact ih1 _ _ _ _ _ _ _
      | exact spec_l1Num.mono _ _
      | exact spec_riGood.mono _ _ _
      | exact spec_riRing.mono _ _ _ _
      | exact spec_whDigits.mono _ _
      | exact LeO.none _
      | refine LeO.ite ?_ ?_
      | refine LeO.bind ?_ (fun _ => ?_)
    intro y0 y1 y2 y3 y4
    unfold spec_RaisedRing.j0
    repeat' first
    | (with_reducible exact ih0 _ _ _ _ _)
    | (with_reducible exact ih1 _ _ _ _ _ _ _)
    | (with_reducible exact spec_l1Num.mono _ _)
    | (with_reducible exact spec_riGood.mono _ _ _)
    | (with_reducible exact spec_riRing.mono _ _ _ _)
    | (with_reducible exact spec_whDigits.mono _ _)
    | (with_reducible exact LeO.refl _)
    | (with_reducible exact LeO.none _)
    | (with_reducible refine LeO.ite ?_ ?_)
    | (with_reducible refine LeO.bind ?_ (fun _ => ?_))
    | exact ih0 _ _ _ _ _
    | exact ih1 _ _ _ _ _ _ _
    | exact spec_l1Num.mono _ _
    | exact spec_riGood.mono _ _ _
    | exact spec_riRing.mono _ _ _ _
    | exact spec_whDigits.mono _ _
    | exact LeO.none _
    | refine LeO.ite ?_ ?_
    | refine LeO.bind ?_ (fun _ => ?_)
theorem spec_RaisedRing.mono : ∀ a0 a1 a2 a3 k, LeO (spec_RaisedRing.f k a0 a1 a2 a3) (spec_RaisedRing.f (k + 1) a0 a1 a2 a3) := by
  intro a0 a1 a2 a3 k
  obtain ⟨ih0, ih1⟩ := spec_RaisedRing.mono_l k
  unfold spec_RaisedRing.f
  repeat' first
      | (with_reducible exact ih0 _ _ _ _ _)
      | (with_reducible exact ih1 _ _ _ _ _ _ _)
      | (with_reducible exact spec_l1Num.mono _ _)
      | (with_reducible exact spec_riGood.mono _ _ _)
      | (with_reducible exact spec_riRing.mono _ _ _ _)
      | (with_reducible exact spec_whDigits.mono _ _)
      | (with_reducible exact LeO.refl _)
      | (with_reducible exact LeO.none _)
      | (with_reducible refine LeO.ite ?_ ?_)
      | (with_reducible refine LeO.bind ?_ (fun _ => ?_))
      | exact ih0 _ _ _ _ _
      | exact ih1 _ _ _ _ _ _ _
      | exact spec_l1Num.mono _ _
      | exact spec_riGood.mono _ _ _
      | exact spec_riRing.mono _ _ _ _
      | exact spec_whDigits.mono _ _
      | exact LeO.none _
      | refine LeO.ite ?_ ?_
      | refine LeO.bind ?_ (fun _ => ?_)
set_option maxHeartbeats 8000000 in
set_option maxRecDepth 100000 in
theorem spec_RaisedRing.calls (k : Nat) (a0_0 : Int) (a0_1 : Int) (a1 : ByteArray) (a2 : Int) (r1 : ByteArray) (r2 : Bool) (w : World) (h : spec_RaisedRing.f k a0_0 a0_1 a1 a2 = some (r1, r2)) :
    Calls Try.prog 22 #[.agg #[.int .i64 a0_0, .int .i64 a0_1], .string a1, .int .i64 a2] w fun e w' => e = .returned (.tuple #[.string r1, .bool r2]) ∧ Below w.heap.size w w' := by
  have hu26 := Try.underlying26
  have HB := Aside0.mk (Below.refl w.heap.size w)
  have H : ((spec_riGood.f k a0_0 a0_1).bind fun t460 => (if t460 = true then ((spec_riRing.f k a0_0 a0_1 a1).bind fun t461 => (if t461 = true then ((spec_l1In.f a2 0 (wrap64 (a0_1 - 1))).bind fun t462 => (spec_RaisedRing.j0 k a1 a2 (!t462) a0_0 a0_1)) else (spec_RaisedRing.j0 k a1 a2 true a0_0 a0_1))) else (spec_RaisedRing.j0 k a1 a2 true a0_0 a0_1))) = some (r1, r2) := h
  clear h
  have HC4 := Aside0.mk H
  clear H
  go_enter Try.func22, Try.ntmps22
  go_upto_region 1 with (first | ((with_reducible refine gate_dst (N := 3) rfl ?_); refine box_event ?hg (N := 3) ?hd (cs := #[.int .i64 a0_0, .int .i64 a0_1]) (t := 26) ?hr ?_; (case hd => rfl); (case hg => rfl); (case hr => first | (go_simp; done) | (go_simp; rfl)); intro gb459 hg w5 hbox hb; have n0_ := bsx hb HB; have n1_ := Aside0.mk (hbox); have n2_ := gwx hg HB; have n3_ := n2_; clear HB; have HB := n0_; have BK459 := n1_; have GW459 := n2_; have GE459 := n3_; clear n0_ n1_ n2_ n3_; clear hb hbox hg))
  (try simp only [Act.put, s_1, s_2, s_3])
  go_cut [27] (fun v27 wc => ∃ (kq : Nat) (x27_3 : Bool), v27 = .bool x27_3 ∧ Aside0 (spec_RaisedRing.j0 kq a1 a2 x27_3 a0_0 a0_1 = some (r1, r2)) ∧ Aside0 (kq ≤ k) ∧ Aside0 (wc.heap[gb459]? = some (.cells #[.int .i64 a0_0, .int .i64 a0_1] 26 (0, 0))) ∧ Aside0 (Below w.heap.size w wc))
  case first =>
    have H := HC4.out
    clear HC4
    replace H := Option.bind_eq_some_iff.mp H
    obtain ⟨t460, A60, H⟩ := H
    try dsimp only at H
    have A6 := Aside0.mk A60
    clear A60
    by_cases c7 : t460 = true
    rotate_left
    · replace c7 := Bool.eq_false_iff.mpr c7
      subst c7
      rw [if_neg (show ¬ (false = true) by decide)] at H
      have H' := Aside0.mk H
      clear H
      have hcz20_0 := cz0 BK459
      have hcz20_1 := cz1 BK459
      have hfz20_0 := blk_frozen BK459.out 0
      have hfz20_1 := blk_frozen BK459.out 1
      go_wp2_with (first | ((with_reducible refine gate_callee (f := 25) rfl ?_); refine goesL_ (some 12) rfl rfl Try.func25 (by kernel_rfl) rfl #[.agg #[.int .i64 a0_0, .int .i64 a0_1]] rfl (by (try simp only [m_1, m_2, m_3]); first | done | rfl | (simp only [m_4, m_5]; rfl)) ?_; (with_reducible refine (spec_riGood.calls k a0_0 a0_1 false _ A6.out).mono ?_); rintro e w21 ⟨rfl, hb⟩; refine ⟨_, rfl, ?_⟩; replace BK459 := bbx hb BK459; replace HB := bsx hb HB; skip; (try clear hb); (try clear hb2); (try clear hk); (try clear hi)))
      go_meet
      case rel => exact ⟨_, (true), (by first | rfl | (simp; done) | (simp [*]; done)), H', ⟨by first | omega | exact Nat.le_refl _⟩, ⟨bK BK459⟩, ⟨bB HB⟩⟩
    subst c7
    rw [if_pos rfl] at H
    replace H := Option.bind_eq_some_iff.mp H
    obtain ⟨t461, A80, H⟩ := H
    try dsimp only at H
    have A8 := Aside0.mk A80
    clear A80
    by_cases c9 : t461 = true
    rotate_left
    · replace c9 := Bool.eq_false_iff.mpr c9
      subst c9
      rw [if_neg (show ¬ (false = true) by decide)] at H
      have H' := Aside0.mk H
      clear H
      have hcz16_0 := cz0 BK459
      have hcz16_1 := cz1 BK459
      have hfz16_0 := blk_frozen BK459.out 0
      have hfz16_1 := blk_frozen BK459.out 1
      go_wp2_with (first | ((with_reducible refine gate_callee (f := 25) rfl ?_); refine goesL_ (some 12) rfl rfl Try.func25 (by kernel_rfl) rfl #[.agg #[.int .i64 a0_0, .int .i64 a0_1]] rfl (by (try simp only [m_1, m_2, m_3]); first | done | rfl | (simp only [m_4, m_5]; rfl)) ?_; (with_reducible refine (spec_riGood.calls k a0_0 a0_1 true _ A6.out).mono ?_); rintro e w17 ⟨rfl, hb⟩; refine ⟨_, rfl, ?_⟩; replace BK459 := bbx hb BK459; replace HB := bsx hb HB; skip; (try clear hb); (try clear hb2); (try clear hk); (try clear hi); have hcz18_0 := cz0 BK459; have hcz18_1 := cz1 BK459; have hfz18_0 := blk_frozen BK459.out 0; have hfz18_1 := blk_frozen BK459.out 1) | (go_at_call 34; (with_reducible refine (spec_riRing.calls k a0_0 a0_1 a1 false _ A8.out).mono ?_); rintro e w19 ⟨rfl, hb⟩; replace BK459 := bbx hb BK459; replace HB := bsx hb HB; skip; (try clear hb); (try clear hb2); (try clear hk); (try clear hi)))
      go_meet
      case rel => exact ⟨_, (true), (by first | rfl | (simp; done) | (simp [*]; done)), H', ⟨by first | omega | exact Nat.le_refl _⟩, ⟨bK BK459⟩, ⟨bB HB⟩⟩
    subst c9
    rw [if_pos rfl] at H
    replace H := Option.bind_eq_some_iff.mp H
    obtain ⟨t462, A100, H⟩ := H
    try dsimp only at H
    have A10 := Aside0.mk A100
    clear A100
    have H' := Aside0.mk H
    clear H
    have hcz11_0 := cz0 BK459
    have hcz11_1 := cz1 BK459
    have hfz11_0 := blk_frozen BK459.out 0
    have hfz11_1 := blk_frozen BK459.out 1
    go_wp2_with (first | ((with_reducible refine gate_callee (f := 25) rfl ?_); refine goesL_ (some 12) rfl rfl Try.func25 (by kernel_rfl) rfl #[.agg #[.int .i64 a0_0, .int .i64 a0_1]] rfl (by (try simp only [m_1, m_2, m_3]); first | done | rfl | (simp only [m_4, m_5]; rfl)) ?_; (with_reducible refine (spec_riGood.calls k a0_0 a0_1 true _ A6.out).mono ?_); rintro e w12 ⟨rfl, hb⟩; refine ⟨_, rfl, ?_⟩; replace BK459 := bbx hb BK459; replace HB := bsx hb HB; skip; (try clear hb); (try clear hb2); (try clear hk); (try clear hi); have hcz13_0 := cz0 BK459; have hcz13_1 := cz1 BK459; have hfz13_0 := blk_frozen BK459.out 0; have hfz13_1 := blk_frozen BK459.out 1) | (go_at_call 34; (with_reducible refine (spec_riRing.calls k a0_0 a0_1 a1 true _ A8.out).mono ?_); rintro e w14 ⟨rfl, hb⟩; replace BK459 := bbx hb BK459; replace HB := bsx hb HB; skip; (try clear hb); (try clear hb2); (try clear hk); (try clear hi); have hcz15_0 := cz0 BK459; have hcz15_1 := cz1 BK459; have hfz15_0 := blk_frozen BK459.out 0; have hfz15_1 := blk_frozen BK459.out 1) | (go_at_call 44; (with_reducible refine (spec_l1In.calls a2 0 (wrap64 (a0_1 - 1)) t462 _ A10.out).mono ?_); rintro e w' ⟨rfl, ⟨nd, rfl⟩⟩))
    go_meet
    case rel => exact ⟨_, (!t462), (by first | rfl | (simp; done) | (simp [*]; done)), H', ⟨by first | omega | exact Nat.le_refl _⟩, ⟨bK BK459⟩, ⟨bB HB⟩⟩
  clear HC4
  obtain ⟨kq, x27_3, rfl, HA, HJ3, BK459, HB⟩ := hcut
  rcases kq with _ | kj3
  · exact absurd HA.out (by simp [spec_RaisedRing.j0])
  have H := HA.out
  clear HA
  simp only [spec_RaisedRing.j0] at H
  by_cases c22 : x27_3 = true
  · subst c22
    rw [if_pos rfl] at H
    simp only [Option.some.injEq, Prod.mk.injEq] at H
    obtain ⟨rfl, rfl⟩ := H
    go_wp2
    go_ret2
    exact ⟨by first | rfl | (simp [errW_none, errW_some] <;> rfl) | (simp [*, errW_none, errW_some] <;> rfl), bB HB⟩
  replace c22 := Bool.eq_false_iff.mpr c22
  subst c22
  rw [if_neg (show ¬ (false = true) by decide)] at H
  replace H := Option.bind_eq_some_iff.mp H
  obtain ⟨t463, A230, H⟩ := H
  try dsimp only at H
  have A23 := Aside0.mk A230
  clear A230
  have H' := Aside0.mk H
  clear H
  go_wp2_with (first | ((with_reducible refine gate_callee (f := 46) rfl ?_); refine goesL_ (some 29) rfl rfl Try.func46 (by kernel_rfl) rfl #[.string a1] rfl (by (try simp only [m_1, m_2, m_3]); first | done | rfl | (simp only [m_4, m_5]; rfl)) ?_; (with_reducible refine (spec_whDigits.calls kj3 a1 t463 _ A23.out).mono ?_); rintro e w24 ⟨v464, rfl, ho0, hb⟩; refine ⟨_, rfl, ?_⟩; have n0_ := Aside0.mk (Kd.R_lower ho0 (below_size (bB HB))); replace BK459 := bbx hb BK459; have n2_ := bsx hb HB; clear HB; have HO465 := n0_; have HB := n2_; clear n0_ n2_; (try clear hb); (try clear hb2); (try clear hk); (try clear hi); (try clear ho0); obtain ⟨Ao25, co25, eo25⟩ := Kd.R_slice HO465.out; subst eo25))
  go_loopg [8, 31] kj3 (fun kq v8 v31 w' => ∃ (x8_2 : ByteArray) (x31_2 : Int), v8 = .string x8_2 ∧ v31 = .int .i64 x31_2 ∧ Aside0 (spec_RaisedRing.l0 kq a2 x8_2 t463 (t463.length : Int) x31_2 a0_0 a0_1 = some (r1, r2)) ∧ Aside0 (kq ≤ kj3) ∧ Aside0 (Kd.R (Kd.int .i64) 3 w' w.heap.size (fun _ => True) (.slice Ao25 t463.length co25) t463) ∧ Aside0 (w'.heap[gb459]? = some (.cells #[.int .i64 a0_0, .int .i64 a0_1] 26 (0, 0))) ∧ Aside0 (Below w.heap.size w w'))
  case atStart => refine ⟨((⟨#[]⟩ : ByteArray)), (0), (by first | rfl | (simp; done) | (simp [*]; done)), (by first | rfl | (simp; done) | (simp [*]; done)), H', ⟨Nat.le_refl _⟩, ⟨?_⟩, ⟨?_⟩, ⟨bB HB⟩⟩ <;> (with_reducible repeat (first | refine g_d ?_ _ | refine g_e ?_ | refine g_a ?_ _ | apply r_a | apply r_d | apply r_e)) <;> first | exact BK459.out | exact HO465.out
  clear H'
  try clear c22
  obtain ⟨x8_2, x31_2, rfl, rfl, HA, HK2, HO_29, BK459, HB⟩ := hrel
  rcases gk with _ | k2
  · exact absurd HA.out (by simp [spec_RaisedRing.l0])
  have H := HA.out
  clear HA
  simp only [spec_RaisedRing.l0] at H
  by_cases c26 : x31_2 < (t463.length : Int)
  rotate_left
  · rw [if_neg c26] at H
    have c26b0 : decide (x31_2 < (t463.length : Int)) = false := decide_eq_false c26
    clear c26
    simp only [Option.some.injEq, Prod.mk.injEq] at H
    obtain ⟨rfl, rfl⟩ := H
    go_wp2
    go_ret2
    exact ⟨by first | rfl | (simp [errW_none, errW_some] <;> rfl) | (simp [*, errW_none, errW_some] <;> rfl), bB HB⟩

  rw [if_pos c26] at H
  have c26b0 : decide (x31_2 < (t463.length : Int)) = true := decide_eq_true c26
  clear c26
  by_cases c27 : 0 ≤ x31_2
  rotate_left
  · rw [if_neg c27] at H
    exact absurd H (by simp)
  rw [if_pos c27] at H
  have c27b0 : decide (0 ≤ x31_2) = true := decide_eq_true c27
  clear c27
  by_cases c28 : x31_2 < (t463.length : Int)
  rotate_left
  · rw [if_neg c28] at H
    exact absurd H (by simp)
  rw [if_pos c28] at H
  have c28b0 : decide (x31_2 < (t463.length : Int)) = true := decide_eq_true c28
  clear c28
  by_cases c29 : a0_1 = 0
  · rw [if_pos c29] at H
    exact absurd H (by simp)
  rw [if_neg c29] at H
  have c29b0 : (a0_1 == 0) = false := beq_eq_false_iff_ne.mpr c29
  have c29b1 : (a0_1 != 0) = true := bne_iff_ne.mpr c29
  replace H := Option.bind_eq_some_iff.mp H
  obtain ⟨t467, A300, H⟩ := H
  try dsimp only at H
  have A30 := Aside0.mk A300
  clear A300
  by_cases c31 : x8_2.size + t467.size ≤ 9223372036854775807
  rotate_left
  · rw [if_neg c31] at H
    exact absurd H (by simp)
  rw [if_pos c31] at H
  have c31b0 := eq_true c31
  have c31b1 : decide (x8_2.size + t467.size ≤ 9223372036854775807) = true := decide_eq_true c31
  try have c31b2 : (9223372036854775807 < x8_2.size + t467.size) = False := eq_false (Nat.not_lt.2 c31)
  have H' := Aside0.mk H
  clear H
  have p466 : 0 ≤ (x31_2 : Int) := of_decide_eq_true (by first | (with_reducible assumption) | assumption)
  have q466 : x31_2 < (t463.length : Int) := of_decide_eq_true (by first | (with_reducible assumption) | assumption)
  obtain ⟨ad466, e466, hx466_0⟩ := Kd.at_int (Kd.R_reads' HO_29.out).2.2 x31_2 p466 q466
  cases e466
  replace p466 := eq_true p466
  replace q466 := eq_true q466
  have hcz32_0 := cz0 BK459
  have hcz32_1 := cz1 BK459
  have hfz32_0 := blk_frozen BK459.out 0
  have hfz32_1 := blk_frozen BK459.out 1
  go_wp2_with (first | ((with_reducible refine gate_callee (f := 47) rfl ?_); refine goesL_ (some 42) rfl rfl Try.func47 (by kernel_rfl) rfl #[.int .i64 (Int.tmod (wrap64 ((rd t463 x31_2) + a2)) a0_1)] rfl (by (try simp only [m_1, m_2, m_3]); first | done | rfl | (simp only [m_4, m_5]; rfl)) ?_; (with_reducible refine (spec_l1Num.calls k2 (Int.tmod (wrap64 ((rd t463 x31_2) + a2)) a0_1) t467 _ A30.out).mono ?_); rintro e w33 ⟨rfl, hb⟩; refine ⟨_, rfl, ?_⟩; have n0_ := Aside0.mk (Kd.R_below (by (with_reducible repeat (first | apply r_a | apply r_d | apply r_e)); exact HO_29.out) hb); replace BK459 := bbx hb BK459; replace HB := bsx hb HB; clear HO_29; have HO_29 := n0_; clear n0_; (try clear hb); (try clear hb2); (try clear hk); (try clear hi)))
  go_roundg k2
  case measure => have := HJ3.out; have := HK2.out; omega
  case rel => refine ⟨(x8_2 ++ t467), (wrap64 (x31_2 + 1)), (by first | rfl | (simp; done) | (simp [*]; done)), (by first | rfl | (simp; done) | (simp [*]; done)), H', ⟨by have := HJ3.out; have := HK2.out; omega⟩, ⟨?_⟩, ⟨?_⟩, ⟨bB HB⟩⟩ <;> (with_reducible repeat (first | refine g_d ?_ _ | refine g_e ?_ | refine g_a ?_ _ | apply r_a | apply r_d | apply r_e)) <;> first | exact BK459.out | exact HO_29.out
/-! ### impl_CodeAtPlace: function 23 -/
def impl_CodeAtPlace.j0 : Nat → Int → Bool → Int → Int → Option (ByteArray × Bool)
  | 0, _, _, _, _ => none
  | k + 1, x1, x16, x469000, x469001 => if x16 = true then (some ((⟨#[]⟩ : ByteArray), false)) else ((impl_Lock_ring.f k x469000 x469001).bind fun t472 => ((impl_Lock_rounded.f k x469000 x469001 t472).bind fun t473 => (if 0 ≤ x1 then (if x1 < (t473.length : Int) then (some (rdOf ByteArray.empty t473 x1, true)) else (none)) else (none))))
def impl_CodeAtPlace.f (k : Nat) (a0_0 : Int) (a0_1 : Int) (a1 : Int) : Option (ByteArray × Bool) := (impl_isRounded.f k a0_0 a0_1).bind fun t469 => (if t469 = true then ((impl_Lock_count.f k a0_0 a0_1).bind fun t470 => ((impl_within.f a1 0 (wrap64 (t470 - 1))).bind fun t471 => (impl_CodeAtPlace.j0 k a1 (!t471) a0_0 a0_1))) else (impl_CodeAtPlace.j0 k a1 true a0_0 a0_1))
theorem impl_CodeAtPlace.mono_l : ∀ k, (∀ y0 y1 y2 y3, LeO (impl_CodeAtPlace.j0 k y0 y1 y2 y3) (impl_CodeAtPlace.j0 (k + 1) y0 y1 y2 y3))
  | 0 => fun _ _ _ _ r h => by simp [impl_CodeAtPlace.j0] at h
  | k + 1 => by
    have ih0 := impl_CodeAtPlace.mono_l k
    · intro y0 y1 y2 y3
      unfold impl_CodeAtPlace.j0
      repeat' first
      | (with_reducible exact ih0 _ _ _ _)
      | (with_reducible exact impl_Lock_count.mono _ _ _)
      | (with_reducible exact impl_Lock_ring.mono _ _ _)
      | (with_reducible exact impl_Lock_rounded.mono _ _ _ _)
      | (with_reducible exact impl_isRounded.mono _ _ _)
      | (with_reducible exact LeO.refl _)
      | (with_reducible exact LeO.none _)
      | (with_reducible refine LeO.ite ?_ ?_)
      | (with_reducible refine LeO.bind ?_ (fun _ => ?_))
      | exact ih0 _ _ _ _
      | exact impl_Lock_count.mono _ _ _
      | exact impl_Lock_ring.mono _ _ _
      | exact impl_Lock_rounded.mono _ _ _ _
      | exact impl_isRounded.mono _ _ _
      | exact LeO.none _
      | refine LeO.ite ?_ ?_
      | refine LeO.bind ?_ (fun _ => ?_)
theorem impl_CodeAtPlace.mono : ∀ a0 a1 a2 k, LeO (impl_CodeAtPlace.f k a0 a1 a2) (impl_CodeAtPlace.f (k + 1) a0 a1 a2) := by
  intro a0 a1 a2 k
  have ih0 := impl_CodeAtPlace.mono_l k
  unfold impl_CodeAtPlace.f
  repeat' first
      | (with_reducible exact ih0 _ _ _ _)
      | (with_reducible exact impl_Lock_count.mono _ _ _)
      | (with_reducible exact impl_Lock_ring.mono _ _ _)
      | (with_reducible exact impl_Lock_rounded.mono _ _ _ _)
      | (with_reducible exact impl_isRounded.mono _ _ _)
      | (with_reducible exact LeO.refl _)
      | (with_reducible exact LeO.none _)
      | (with_reducible refine LeO.ite ?_ ?_)
      | (with_reducible refine LeO.bind ?_ (fun _ => ?_))
      | exact ih0 _ _ _ _
      | exact impl_Lock_count.mono _ _ _
      | exact impl_Lock_ring.mono _ _ _
      | exact impl_Lock_rounded.mono _ _ _ _
      | exact impl_isRounded.mono _ _ _
      | exact LeO.none _
      | refine LeO.ite ?_ ?_
      | refine LeO.bind ?_ (fun _ => ?_)
def impl_CodeAtPlace.T3 : Bool × List (List Nat × List Nat) := (true, [([], []), ([], []), ([1], [1]), ([0, 2, 2], [0, 2]), ([], []), ([3, 4], [3, 4]), ([5], [5]), ([6, 3, 0, 1, 2, 3, 4, 5, 6], [6]), ([7, 0, 1, 2, 3, 4, 5, 6, 7], [])])
def impl_CodeAtPlace.B3 : List Nat := [0, 0, 2, 7, 0, 31, 63, 127, 255]
theorem impl_CodeAtPlace.tab3 : rtab .any (opsOf Try.f23 3) = impl_CodeAtPlace.T3 := by kernel_rfl
theorem impl_CodeAtPlace.bits3 : waitsOk impl_CodeAtPlace.T3.2 impl_CodeAtPlace.B3 = true := by kernel_rfl
set_option maxHeartbeats 8000000 in
set_option maxRecDepth 100000 in
theorem impl_CodeAtPlace.calls (k : Nat) (a0_0 : Int) (a0_1 : Int) (a1 : Int) (r1 : ByteArray) (r2 : Bool) (w : World) (h : impl_CodeAtPlace.f k a0_0 a0_1 a1 = some (r1, r2)) :
    Calls Try.prog 23 #[.agg #[.int .i64 a0_0, .int .i64 a0_1], .int .i64 a1] w fun e w' => e = .returned (.tuple #[.string r1, .bool r2]) ∧ Below w.heap.size w w' := by
  have hu26 := Try.underlying26
  have HB := Aside0.mk (Below.refl w.heap.size w)
  have H : ((impl_isRounded.f k a0_0 a0_1).bind fun t469 => (if t469 = true then ((impl_Lock_count.f k a0_0 a0_1).bind fun t470 => ((impl_within.f a1 0 (wrap64 (t470 - 1))).bind fun t471 => (impl_CodeAtPlace.j0 k a1 (!t471) a0_0 a0_1))) else (impl_CodeAtPlace.j0 k a1 true a0_0 a0_1))) = some (r1, r2) := h
  clear h
  have HC3 := Aside0.mk H
  clear H
  go_enter Try.func23, Try.ntmps23
  go_upto_region 1 with (first | ((with_reducible refine gate_dst (N := 2) rfl ?_); refine box_event ?hg (N := 2) ?hd (cs := #[.int .i64 a0_0, .int .i64 a0_1]) (t := 26) ?hr ?_; (case hd => rfl); (case hg => rfl); (case hr => first | (go_simp; done) | (go_simp; rfl)); intro gb468 hg w4 hbox hb; have n0_ := bsx hb HB; have n1_ := Aside0.mk (hbox); have n2_ := gwx hg HB; have n3_ := n2_; clear HB; have HB := n0_; have BK468 := n1_; have GW468 := n2_; have GE468 := n3_; clear n0_ n1_ n2_ n3_; clear hb hbox hg))
  (try simp only [Act.put, s_1, s_2, s_3])
  go_cut [16] (fun v16 wc => ∃ (kq : Nat) (x16_2 : Bool), v16 = .bool x16_2 ∧ Aside0 (impl_CodeAtPlace.j0 kq a1 x16_2 a0_0 a0_1 = some (r1, r2)) ∧ Aside0 (kq ≤ k) ∧ Aside0 (wc.heap[gb468]? = some (.cells #[.int .i64 a0_0, .int .i64 a0_1] 26 (0, 0))) ∧ Aside0 (Below w.heap.size w wc))
  case first =>
    have H := HC3.out
    clear HC3
    replace H := Option.bind_eq_some_iff.mp H
    obtain ⟨t469, A50, H⟩ := H
    try dsimp only at H
    have A5 := Aside0.mk A50
    clear A50
    by_cases c6 : t469 = true
    rotate_left
    · replace c6 := Bool.eq_false_iff.mpr c6
      subst c6
      rw [if_neg (show ¬ (false = true) by decide)] at H
      have H' := Aside0.mk H
      clear H
      have hcz13_0 := cz0 BK468
      have hcz13_1 := cz1 BK468
      have hfz13_0 := blk_frozen BK468.out 0
      have hfz13_1 := blk_frozen BK468.out 1
      go_wp2_with (first | ((with_reducible refine gate_callee (f := 29) rfl ?_); refine goesL_ (some 7) rfl rfl Try.func29 (by kernel_rfl) rfl #[.agg #[.int .i64 a0_0, .int .i64 a0_1]] rfl (by (try simp only [m_1, m_2, m_3]); first | done | rfl | (simp only [m_4, m_5]; rfl)) ?_; (with_reducible refine (impl_isRounded.calls k a0_0 a0_1 false _ A5.out).mono ?_); rintro e w14 ⟨rfl, hb⟩; refine ⟨_, rfl, ?_⟩; replace BK468 := bbx hb BK468; replace HB := bsx hb HB; skip; (try clear hb); (try clear hb2); (try clear hk); (try clear hi)))
      go_meet
      case rel => exact ⟨_, (true), (by first | rfl | (simp; done) | (simp [*]; done)), H', ⟨by first | omega | exact Nat.le_refl _⟩, ⟨bK BK468⟩, ⟨bB HB⟩⟩
    subst c6
    rw [if_pos rfl] at H
    replace H := Option.bind_eq_some_iff.mp H
    obtain ⟨t470, A70, H⟩ := H
    try dsimp only at H
    have A7 := Aside0.mk A70
    clear A70
    replace H := Option.bind_eq_some_iff.mp H
    obtain ⟨t471, A80, H⟩ := H
    try dsimp only at H
    have A8 := Aside0.mk A80
    clear A80
    have H' := Aside0.mk H
    clear H
    have hcz9_0 := cz0 BK468
    have hcz9_1 := cz1 BK468
    have hfz9_0 := blk_frozen BK468.out 0
    have hfz9_1 := blk_frozen BK468.out 1
    go_wp2_with (first | ((with_reducible refine gate_callee (f := 29) rfl ?_); refine goesL_ (some 7) rfl rfl Try.func29 (by kernel_rfl) rfl #[.agg #[.int .i64 a0_0, .int .i64 a0_1]] rfl (by (try simp only [m_1, m_2, m_3]); first | done | rfl | (simp only [m_4, m_5]; rfl)) ?_; (with_reducible refine (impl_isRounded.calls k a0_0 a0_1 true _ A5.out).mono ?_); rintro e w10 ⟨rfl, hb⟩; refine ⟨_, rfl, ?_⟩; replace BK468 := bbx hb BK468; replace HB := bsx hb HB; skip; (try clear hb); (try clear hb2); (try clear hk); (try clear hi); have hcz11_0 := cz0 BK468; have hcz11_1 := cz1 BK468; have hfz11_0 := blk_frozen BK468.out 0; have hfz11_1 := blk_frozen BK468.out 1) | (go_at_call 39; (with_reducible refine (impl_Lock_count.calls k a0_0 a0_1 t470 _ A7.out).mono ?_); rintro e w12 ⟨rfl, hb⟩; replace BK468 := bbx hb BK468; replace HB := bsx hb HB; skip; (try clear hb); (try clear hb2); (try clear hk); (try clear hi)) | (go_at_call 43; (with_reducible refine (impl_within.calls a1 0 (wrap64 (t470 - 1)) t471 _ A8.out).mono ?_); rintro e w' ⟨rfl, ⟨nd, rfl⟩⟩))
    go_meet
    case rel => exact ⟨_, (!t471), (by first | rfl | (simp; done) | (simp [*]; done)), H', ⟨by first | omega | exact Nat.le_refl _⟩, ⟨bK BK468⟩, ⟨bB HB⟩⟩
  clear HC3
  obtain ⟨kq, x16_2, rfl, HA, HJ2, BK468, HB⟩ := hcut
  rcases kq with _ | kj2
  · exact absurd HA.out (by simp [impl_CodeAtPlace.j0])
  have H := HA.out
  clear HA
  simp only [impl_CodeAtPlace.j0] at H
  by_cases c15 : x16_2 = true
  · subst c15
    rw [if_pos rfl] at H
    simp only [Option.some.injEq, Prod.mk.injEq] at H
    obtain ⟨rfl, rfl⟩ := H
    go_wp2
    go_ret2
    exact ⟨by first | rfl | (simp [errW_none, errW_some] <;> rfl) | (simp [*, errW_none, errW_some] <;> rfl), bB HB⟩
  replace c15 := Bool.eq_false_iff.mpr c15
  subst c15
  rw [if_neg (show ¬ (false = true) by decide)] at H
  replace H := Option.bind_eq_some_iff.mp H
  obtain ⟨t472, A160, H⟩ := H
  try dsimp only at H
  have A16 := Aside0.mk A160
  clear A160
  replace H := Option.bind_eq_some_iff.mp H
  obtain ⟨t473, A170, H⟩ := H
  try dsimp only at H
  have A17 := Aside0.mk A170
  clear A170
  by_cases c18 : 0 ≤ a1
  rotate_left
  · rw [if_neg c18] at H
    exact absurd H (by simp)

  rw [if_pos c18] at H
  have c18b0 : decide (0 ≤ a1) = true := decide_eq_true c18
  clear c18
  by_cases c19 : a1 < (t473.length : Int)
  rotate_left
  · rw [if_neg c19] at H
    exact absurd H (by simp)
  rw [if_pos c19] at H
  have c19b0 : decide (a1 < (t473.length : Int)) = true := decide_eq_true c19
  clear c19
  simp only [Option.some.injEq, Prod.mk.injEq] at H
  obtain ⟨rfl, rfl⟩ := H
  try go_wp2
  have n0_ := Aside0.mk (g_e BK468.out)
  have n1_ := Aside0.mk (b_e HB.out)
  clear BK468
  clear HB
  have BK468 := n0_
  have HB := n1_
  clear n0_ n1_
  refine start_ (n := 9) (S := fun w' => w'.cell? ⟨gb468, 0, none⟩ = some (.int .i64 a0_0) ∧ w'.cell? ⟨gb468, 1, none⟩ = some (.int .i64 a0_1) ∧ True) (ds := []) (bs_ 9 0) (by kernel_rfl) rfl rfl ⟨(blk_cell BK468.out 0).trans rfl, (blk_cell BK468.out 1).trans rfl, trivial⟩ (fun hHeld => ?_); refine with_tabW impl_CodeAtPlace.tab3 impl_CodeAtPlace.bits3 (fun HT_ HW_ => ?_)
  generalize wc.drew = w20 at BK468 HB hHeld ⊢
  refine pua 4 21 (bs_ 9 16) HT_ ?_
  refine tk_ 0 17 (bs_ 9 17) rfl rfl HT_ HW_ (by kernel_rfl) (fun _ _ _ h => h) (by rfl) hHeld (by rintro w' ⟨s0, s1, s2⟩; go_simp; with_reducible rfl) (by simp only [Act.put, s_1, s_2, s_3, i64_w, i32_w]; rfl) ?_
  refine tk_ 1 18 (bs_ 9 19) rfl rfl HT_ HW_ (by kernel_rfl) (fun _ _ _ h => h) (by rfl) hHeld (by rintro w' ⟨s0, s1, s2⟩; go_simp; with_reducible rfl) (by simp only [Act.put, s_1, s_2, s_3, i64_w, i32_w]; rfl) ?_
  refine one_ (i := 2) (N := some 19) (bs_ 9 23) rfl rfl (one_of HT_.out (by kernel_rfl)) (by decide) (fun K hK => ?_)
  refine goes_ Try.func31 (by kernel_rfl) rfl #[.agg #[.int .i64 a0_0, .int .i64 a0_1]] (by rfl) rfl rfl (by (try simp only [m_1, m_2, m_3]); first | done | rfl | (simp only [m_4, m_5]; rfl)) ?_
  with_reducible refine (impl_Lock_ring.calls kj2 a0_0 a0_1 t472 _ A16.out).mono ?_
  rintro e w21 ⟨rfl, hb⟩
  refine ⟨_, rfl, ?_⟩
  have n0_ := bbx hb BK468
  have n1_ := bsx hb HB
  clear BK468
  clear HB
  have BK468 := n0_
  have HB := n1_
  clear n0_ n1_
  (try clear hb)
  (try clear hb2)
  (try clear hk)
  (try clear hi)
  refine hK.out _ _ ⟨(blk_cell BK468.out 0).trans rfl, (blk_cell BK468.out 1).trans rfl, trivial⟩ (fun hHeld => ?_)
  clear hK K
  refine norm_ (a' := ?_) ?_ ?_
  rotate_left
  · show Act.put _ (some 19) _ = _
    simp only [Act.put, s_1, s_2, s_3, i64_w, i32_w]
    rfl
  refine one_ (i := 3) (N := some 20) (bs_ 9 31) rfl rfl (one_of HT_.out (by kernel_rfl)) (by decide) (fun K hK => ?_)
  refine goes_ Try.func35 (by kernel_rfl) rfl #[.agg #[.int .i64 a0_0, .int .i64 a0_1], .string t472] (by rfl) rfl rfl (by (try simp only [m_1, m_2, m_3]); first | done | rfl | (simp only [m_4, m_5]; rfl)) ?_
  with_reducible refine (impl_Lock_rounded.calls kj2 a0_0 a0_1 t472 t473 _ A17.out).mono ?_
  rintro e w22 ⟨v474, rfl, ho0, hb⟩
  refine ⟨_, rfl, ?_⟩
  have n0_ := Aside0.mk (Kd.R_lower ho0 (below_size (bB HB)))
  have n1_ := bbx hb BK468
  have n2_ := bsx hb HB
  clear BK468
  clear HB
  have HO475 := n0_
  have BK468 := n1_
  have HB := n2_
  clear n0_ n1_ n2_
  (try clear hb)
  (try clear hb2)
  (try clear hk)
  (try clear hi)
  (try clear ho0)
  obtain ⟨Ao23, co23, eo23⟩ := Kd.R_slice HO475.out
  (first | subst eo23 | (injection eo23 with f1_ f2_ f3_; have f4_ := f1_.symm; have f5_ := f3_.symm; clear f1_ f2_ f3_; subst f4_; subst f5_))
  have p476 : 0 ≤ (a1 : Int) := of_decide_eq_true (by first | (with_reducible assumption) | assumption)
  have q476 : a1 < (t473.length : Int) := of_decide_eq_true (by first | (with_reducible assumption) | assumption)
  obtain ⟨ad476, e476, hx476_0⟩ := Kd.at_string (Kd.R_reads' HO475.out).2.2 a1 p476 q476
  cases e476
  replace p476 := eq_true p476
  replace q476 := eq_true q476
  refine hK.out _ _ ⟨(blk_cell BK468.out 0).trans rfl, (blk_cell BK468.out 1).trans rfl, trivial⟩ (fun hHeld => ?_)
  clear hK K
  refine norm_ (a' := ?_) ?_ ?_
  rotate_left
  · show Act.put _ (some 20) _ = _
    simp only [Act.put, s_1, s_2, s_3, i64_w, i32_w]
    rfl
  refine pua 5 22 (bs_ 9 63) HT_ ?_
  refine one_ (i := 6) (N := some 23) (bs_ 9 127) rfl rfl (one_of HT_.out (by kernel_rfl)) (by decide) (fun K hK => ?_)
  refine value_ (w1 := ?_) (v := ?_) (by rfl) rfl ?_ ?_
  rotate_left 2
  · go_simp
    constructor
    rotate_left
    · rfl
    rfl
  refine hK.out _ _ ⟨(blk_cell BK468.out 0).trans rfl, (blk_cell BK468.out 1).trans rfl, trivial⟩ (fun hHeld => ?_)
  clear hK K
  refine norm_ (a' := ?_) ?_ ?_
  rotate_left
  · show Act.put _ (some 23) _ = _
    simp only [Act.put, s_1, s_2, s_3, i64_w, i32_w]
    rfl
  refine pua 7 4 (bs_ 9 255) HT_ ?_
  refine pua 8 5 (bs_ 9 511) HT_ ?_
  refine done_ (done_of HT_.out (by kernel_rfl)) ?_
  try go_wp2
  go_ret2
  exact ⟨by first | rfl | (simp [errW_none, errW_some] <;> rfl) | (simp [*, errW_none, errW_some] <;> rfl), bB HB⟩
/-! ### spec_CodeAtPlace: function 24 -/
def spec_CodeAtPlace.j0 : Nat → Int → Bool → Int → Int → Option (ByteArray × Bool)
  | 0, _, _, _, _ => none
  | k + 1, x1, x16, x478000, x478001 => if x16 = true then (some ((⟨#[]⟩ : ByteArray), false)) else ((spec_riLeast.f k x478000 x478001).bind fun t481 => ((spec_riCodes.f k x478000 x478001 t481 true).bind fun t482 => (if 0 ≤ x1 then (if x1 < (t482.length : Int) then (some (rdOf ByteArray.empty t482 x1, true)) else (none)) else (none))))
def spec_CodeAtPlace.f (k : Nat) (a0_0 : Int) (a0_1 : Int) (a1 : Int) : Option (ByteArray × Bool) := (spec_riGood.f k a0_0 a0_1).bind fun t478 => (if t478 = true then ((spec_whCount.f k a0_0 a0_1).bind fun t479 => ((spec_l1In.f a1 0 (wrap64 (t479 - 1))).bind fun t480 => (spec_CodeAtPlace.j0 k a1 (!t480) a0_0 a0_1))) else (spec_CodeAtPlace.j0 k a1 true a0_0 a0_1))
theorem spec_CodeAtPlace.mono_l : ∀ k, (∀ y0 y1 y2 y3, LeO (spec_CodeAtPlace.j0 k y0 y1 y2 y3) (spec_CodeAtPlace.j0 (k + 1) y0 y1 y2 y3))
  | 0 => fun _ _ _ _ r h => by simp [spec_CodeAtPlace.j0] at h
  | k + 1 => by
    have ih0 := spec_CodeAtPlace.mono_l k
    · intro y0 y1 y2 y3
      unfold spec_CodeAtPlace.j0
      repeat' first
      | (with_reducible exact ih0 _ _ _ _)
      | (with_reducible exact spec_riCodes.mono _ _ _ _ _)
      | (with_reducible exact spec_riGood.mono _ _ _)
      | (with_reducible exact spec_riLeast.mono _ _ _)
      | (with_reducible exact spec_whCount.mono _ _ _)
      | (with_reducible exact LeO.refl _)
      | (with_reducible exact LeO.none _)
      | (with_reducible refine LeO.ite ?_ ?_)
      | (with_reducible refine LeO.bind ?_ (fun _ => ?_))
      | exact ih0 _ _ _ _
      | exact spec_riCodes.mono _ _ _ _ _
      | exact spec_riGood.mono _ _ _
      | exact spec_riLeast.mono _ _ _
      | exact spec_whCount.mono _ _ _
      | exact LeO.none _
      | refine LeO.ite ?_ ?_
      | refine LeO.bind ?_ (fun _ => ?_)
theorem spec_CodeAtPlace.mono : ∀ a0 a1 a2 k, LeO (spec_CodeAtPlace.f k a0 a1 a2) (spec_CodeAtPlace.f (k + 1) a0 a1 a2) := by
  intro a0 a1 a2 k
  have ih0 := spec_CodeAtPlace.mono_l k
  unfold spec_CodeAtPlace.f
  repeat' first
      | (with_reducible exact ih0 _ _ _ _)
      | (with_reducible exact spec_riCodes.mono _ _ _ _ _)
      | (with_reducible exact spec_riGood.mono _ _ _)
      | (with_reducible exact spec_riLeast.mono _ _ _)
      | (with_reducible exact spec_whCount.mono _ _ _)
      | (with_reducible exact LeO.refl _)
      | (with_reducible exact LeO.none _)
      | (with_reducible refine LeO.ite ?_ ?_)
      | (with_reducible refine LeO.bind ?_ (fun _ => ?_))
      | exact ih0 _ _ _ _
      | exact spec_riCodes.mono _ _ _ _ _
      | exact spec_riGood.mono _ _ _
      | exact spec_riLeast.mono _ _ _
      | exact spec_whCount.mono _ _ _
      | exact LeO.none _
      | refine LeO.ite ?_ ?_
      | refine LeO.bind ?_ (fun _ => ?_)
def spec_CodeAtPlace.T3 : Bool × List (List Nat × List Nat) := (true, [([], []), ([], []), ([1], [1]), ([0, 2, 2], [0, 2]), ([], []), ([3, 4], [3, 4]), ([5], [5]), ([6, 3, 0, 1, 2, 3, 4, 5, 6], [6]), ([7, 0, 1, 2, 3, 4, 5, 6, 7], [])])
def spec_CodeAtPlace.B3 : List Nat := [0, 0, 2, 7, 0, 31, 63, 127, 255]
theorem spec_CodeAtPlace.tab3 : rtab .any (opsOf Try.f24 3) = spec_CodeAtPlace.T3 := by kernel_rfl
theorem spec_CodeAtPlace.bits3 : waitsOk spec_CodeAtPlace.T3.2 spec_CodeAtPlace.B3 = true := by kernel_rfl
set_option maxHeartbeats 8000000 in
set_option maxRecDepth 100000 in
theorem spec_CodeAtPlace.calls (k : Nat) (a0_0 : Int) (a0_1 : Int) (a1 : Int) (r1 : ByteArray) (r2 : Bool) (w : World) (h : spec_CodeAtPlace.f k a0_0 a0_1 a1 = some (r1, r2)) :
    Calls Try.prog 24 #[.agg #[.int .i64 a0_0, .int .i64 a0_1], .int .i64 a1] w fun e w' => e = .returned (.tuple #[.string r1, .bool r2]) ∧ Below w.heap.size w w' := by
  have hu26 := Try.underlying26
  have HB := Aside0.mk (Below.refl w.heap.size w)
  have H : ((spec_riGood.f k a0_0 a0_1).bind fun t478 => (if t478 = true then ((spec_whCount.f k a0_0 a0_1).bind fun t479 => ((spec_l1In.f a1 0 (wrap64 (t479 - 1))).bind fun t480 => (spec_CodeAtPlace.j0 k a1 (!t480) a0_0 a0_1))) else (spec_CodeAtPlace.j0 k a1 true a0_0 a0_1))) = some (r1, r2) := h
  clear h
  have HC3 := Aside0.mk H
  clear H
  go_enter Try.func24, Try.ntmps24
  go_upto_region 1 with (first | ((with_reducible refine gate_dst (N := 2) rfl ?_); refine box_event ?hg (N := 2) ?hd (cs := #[.int .i64 a0_0, .int .i64 a0_1]) (t := 26) ?hr ?_; (case hd => rfl); (case hg => rfl); (case hr => first | (go_simp; done) | (go_simp; rfl)); intro gb477 hg w4 hbox hb; have n0_ := bsx hb HB; have n1_ := Aside0.mk (hbox); have n2_ := gwx hg HB; have n3_ := n2_; clear HB; have HB := n0_; have BK477 := n1_; have GW477 := n2_; have GE477 := n3_; clear n0_ n1_ n2_ n3_; clear hb hbox hg))
  (try simp only [Act.put, s_1, s_2, s_3])
  go_cut [16] (fun v16 wc => ∃ (kq : Nat) (x16_2 : Bool), v16 = .bool x16_2 ∧ Aside0 (spec_CodeAtPlace.j0 kq a1 x16_2 a0_0 a0_1 = some (r1, r2)) ∧ Aside0 (kq ≤ k) ∧ Aside0 (wc.heap[gb477]? = some (.cells #[.int .i64 a0_0, .int .i64 a0_1] 26 (0, 0))) ∧ Aside0 (Below w.heap.size w wc))
  case first =>
    have H := HC3.out
    clear HC3
    replace H := Option.bind_eq_some_iff.mp H
    obtain ⟨t478, A50, H⟩ := H
    try dsimp only at H
    have A5 := Aside0.mk A50
    clear A50
    by_cases c6 : t478 = true
    rotate_left
    · replace c6 := Bool.eq_false_iff.mpr c6
      subst c6
      rw [if_neg (show ¬ (false = true) by decide)] at H
      have H' := Aside0.mk H
      clear H
      have hcz13_0 := cz0 BK477
      have hcz13_1 := cz1 BK477
      have hfz13_0 := blk_frozen BK477.out 0
      have hfz13_1 := blk_frozen BK477.out 1
      go_wp2_with (first | ((with_reducible refine gate_callee (f := 25) rfl ?_); refine goesL_ (some 7) rfl rfl Try.func25 (by kernel_rfl) rfl #[.agg #[.int .i64 a0_0, .int .i64 a0_1]] rfl (by (try simp only [m_1, m_2, m_3]); first | done | rfl | (simp only [m_4, m_5]; rfl)) ?_; (with_reducible refine (spec_riGood.calls k a0_0 a0_1 false _ A5.out).mono ?_); rintro e w14 ⟨rfl, hb⟩; refine ⟨_, rfl, ?_⟩; replace BK477 := bbx hb BK477; replace HB := bsx hb HB; skip; (try clear hb); (try clear hb2); (try clear hk); (try clear hi)))
      go_meet
      case rel => exact ⟨_, (true), (by first | rfl | (simp; done) | (simp [*]; done)), H', ⟨by first | omega | exact Nat.le_refl _⟩, ⟨bK BK477⟩, ⟨bB HB⟩⟩
    subst c6
    rw [if_pos rfl] at H
    replace H := Option.bind_eq_some_iff.mp H
    obtain ⟨t479, A70, H⟩ := H
    try dsimp only at H
    have A7 := Aside0.mk A70
    clear A70
    replace H := Option.bind_eq_some_iff.mp H
    obtain ⟨t480, A80, H⟩ := H
    try dsimp only at H
    have A8 := Aside0.mk A80
    clear A80
    have H' := Aside0.mk H
    clear H
    have hcz9_0 := cz0 BK477
    have hcz9_1 := cz1 BK477
    have hfz9_0 := blk_frozen BK477.out 0
    have hfz9_1 := blk_frozen BK477.out 1
    go_wp2_with (first | ((with_reducible refine gate_callee (f := 25) rfl ?_); refine goesL_ (some 7) rfl rfl Try.func25 (by kernel_rfl) rfl #[.agg #[.int .i64 a0_0, .int .i64 a0_1]] rfl (by (try simp only [m_1, m_2, m_3]); first | done | rfl | (simp only [m_4, m_5]; rfl)) ?_; (with_reducible refine (spec_riGood.calls k a0_0 a0_1 true _ A5.out).mono ?_); rintro e w10 ⟨rfl, hb⟩; refine ⟨_, rfl, ?_⟩; replace BK477 := bbx hb BK477; replace HB := bsx hb HB; skip; (try clear hb); (try clear hb2); (try clear hk); (try clear hi); have hcz11_0 := cz0 BK477; have hcz11_1 := cz1 BK477; have hfz11_0 := blk_frozen BK477.out 0; have hfz11_1 := blk_frozen BK477.out 1) | (go_at_call 48; (with_reducible refine (spec_whCount.calls k a0_0 a0_1 t479 _ A7.out).mono ?_); rintro e w12 ⟨rfl, hb⟩; replace BK477 := bbx hb BK477; replace HB := bsx hb HB; skip; (try clear hb); (try clear hb2); (try clear hk); (try clear hi)) | (go_at_call 44; (with_reducible refine (spec_l1In.calls a1 0 (wrap64 (t479 - 1)) t480 _ A8.out).mono ?_); rintro e w' ⟨rfl, ⟨nd, rfl⟩⟩))
    go_meet
    case rel => exact ⟨_, (!t480), (by first | rfl | (simp; done) | (simp [*]; done)), H', ⟨by first | omega | exact Nat.le_refl _⟩, ⟨bK BK477⟩, ⟨bB HB⟩⟩
  clear HC3
  obtain ⟨kq, x16_2, rfl, HA, HJ2, BK477, HB⟩ := hcut
  rcases kq with _ | kj2
  · exact absurd HA.out (by simp [spec_CodeAtPlace.j0])
  have H := HA.out
  clear HA
  simp only [spec_CodeAtPlace.j0] at H
  by_cases c15 : x16_2 = true
  · subst c15
    rw [if_pos rfl] at H
    simp only [Option.some.injEq, Prod.mk.injEq] at H
    obtain ⟨rfl, rfl⟩ := H
    go_wp2
    go_ret2
    exact ⟨by first | rfl | (simp [errW_none, errW_some] <;> rfl) | (simp [*, errW_none, errW_some] <;> rfl), bB HB⟩
  replace c15 := Bool.eq_false_iff.mpr c15
  subst c15
  rw [if_neg (show ¬ (false = true) by decide)] at H
  replace H := Option.bind_eq_some_iff.mp H
  obtain ⟨t481, A160, H⟩ := H
  try dsimp only at H
  have A16 := Aside0.mk A160
  clear A160
  replace H := Option.bind_eq_some_iff.mp H
  obtain ⟨t482, A170, H⟩ := H
  try dsimp only at H
  have A17 := Aside0.mk A170
  clear A170
  by_cases c18 : 0 ≤ a1
  rotate_left
  · rw [if_neg c18] at H
    exact absurd H (by simp)

  rw [if_pos c18] at H
  have c18b0 : decide (0 ≤ a1) = true := decide_eq_true c18
  clear c18
  by_cases c19 : a1 < (t482.length : Int)
  rotate_left
  · rw [if_neg c19] at H
    exact absurd H (by simp)
  rw [if_pos c19] at H
  have c19b0 : decide (a1 < (t482.length : Int)) = true := decide_eq_true c19
  clear c19
  simp only [Option.some.injEq, Prod.mk.injEq] at H
  obtain ⟨rfl, rfl⟩ := H
  try go_wp2
  have n0_ := Aside0.mk (g_e BK477.out)
  have n1_ := Aside0.mk (b_e HB.out)
  clear BK477
  clear HB
  have BK477 := n0_
  have HB := n1_
  clear n0_ n1_
  refine start_ (n := 9) (S := fun w' => w'.cell? ⟨gb477, 0, none⟩ = some (.int .i64 a0_0) ∧ w'.cell? ⟨gb477, 1, none⟩ = some (.int .i64 a0_1) ∧ True) (ds := []) (bs_ 9 0) (by kernel_rfl) rfl rfl ⟨(blk_cell BK477.out 0).trans rfl, (blk_cell BK477.out 1).trans rfl, trivial⟩ (fun hHeld => ?_); refine with_tabW spec_CodeAtPlace.tab3 spec_CodeAtPlace.bits3 (fun HT_ HW_ => ?_)
  generalize wc.drew = w20 at BK477 HB hHeld ⊢
  refine pua 4 21 (bs_ 9 16) HT_ ?_
  refine tk_ 0 17 (bs_ 9 17) rfl rfl HT_ HW_ (by kernel_rfl) (fun _ _ _ h => h) (by rfl) hHeld (by rintro w' ⟨s0, s1, s2⟩; go_simp; with_reducible rfl) (by simp only [Act.put, s_1, s_2, s_3, i64_w, i32_w]; rfl) ?_
  refine tk_ 1 18 (bs_ 9 19) rfl rfl HT_ HW_ (by kernel_rfl) (fun _ _ _ h => h) (by rfl) hHeld (by rintro w' ⟨s0, s1, s2⟩; go_simp; with_reducible rfl) (by simp only [Act.put, s_1, s_2, s_3, i64_w, i32_w]; rfl) ?_
  refine one_ (i := 2) (N := some 19) (bs_ 9 23) rfl rfl (one_of HT_.out (by kernel_rfl)) (by decide) (fun K hK => ?_)
  refine goes_ Try.func28 (by kernel_rfl) rfl #[.agg #[.int .i64 a0_0, .int .i64 a0_1]] (by rfl) rfl rfl (by (try simp only [m_1, m_2, m_3]); first | done | rfl | (simp only [m_4, m_5]; rfl)) ?_
  with_reducible refine (spec_riLeast.calls kj2 a0_0 a0_1 t481 _ A16.out).mono ?_
  rintro e w21 ⟨rfl, hb⟩
  refine ⟨_, rfl, ?_⟩
  have n0_ := bbx hb BK477
  have n1_ := bsx hb HB
  clear BK477
  clear HB
  have BK477 := n0_
  have HB := n1_
  clear n0_ n1_
  (try clear hb)
  (try clear hb2)
  (try clear hk)
  (try clear hi)
  refine hK.out _ _ ⟨(blk_cell BK477.out 0).trans rfl, (blk_cell BK477.out 1).trans rfl, trivial⟩ (fun hHeld => ?_)
  clear hK K
  refine norm_ (a' := ?_) ?_ ?_
  rotate_left
  · show Act.put _ (some 19) _ = _
    simp only [Act.put, s_1, s_2, s_3, i64_w, i32_w]
    rfl
  refine one_ (i := 3) (N := some 20) (bs_ 9 31) rfl rfl (one_of HT_.out (by kernel_rfl)) (by decide) (fun K hK => ?_)
  refine goes_ Try.func27 (by kernel_rfl) rfl #[.agg #[.int .i64 a0_0, .int .i64 a0_1], .string t481, .bool true] (by rfl) rfl rfl (by (try simp only [m_1, m_2, m_3]); first | done | rfl | (simp only [m_4, m_5]; rfl)) ?_
  with_reducible refine (spec_riCodes.calls kj2 a0_0 a0_1 t481 true t482 _ A17.out).mono ?_
  rintro e w22 ⟨v483, rfl, ho0, hb⟩
  refine ⟨_, rfl, ?_⟩
  have n0_ := Aside0.mk (Kd.R_lower ho0 (below_size (bB HB)))
  have n1_ := bbx hb BK477
  have n2_ := bsx hb HB
  clear BK477
  clear HB
  have HO484 := n0_
  have BK477 := n1_
  have HB := n2_
  clear n0_ n1_ n2_
  (try clear hb)
  (try clear hb2)
  (try clear hk)
  (try clear hi)
  (try clear ho0)
  obtain ⟨Ao23, co23, eo23⟩ := Kd.R_slice HO484.out
  (first | subst eo23 | (injection eo23 with f1_ f2_ f3_; have f4_ := f1_.symm; have f5_ := f3_.symm; clear f1_ f2_ f3_; subst f4_; subst f5_))
  have p485 : 0 ≤ (a1 : Int) := of_decide_eq_true (by first | (with_reducible assumption) | assumption)
  have q485 : a1 < (t482.length : Int) := of_decide_eq_true (by first | (with_reducible assumption) | assumption)
  obtain ⟨ad485, e485, hx485_0⟩ := Kd.at_string (Kd.R_reads' HO484.out).2.2 a1 p485 q485
  cases e485
  replace p485 := eq_true p485
  replace q485 := eq_true q485
  refine hK.out _ _ ⟨(blk_cell BK477.out 0).trans rfl, (blk_cell BK477.out 1).trans rfl, trivial⟩ (fun hHeld => ?_)
  clear hK K
  refine norm_ (a' := ?_) ?_ ?_
  rotate_left
  · show Act.put _ (some 20) _ = _
    simp only [Act.put, s_1, s_2, s_3, i64_w, i32_w]
    rfl
  refine pua 5 22 (bs_ 9 63) HT_ ?_
  refine one_ (i := 6) (N := some 23) (bs_ 9 127) rfl rfl (one_of HT_.out (by kernel_rfl)) (by decide) (fun K hK => ?_)
  refine value_ (w1 := ?_) (v := ?_) (by rfl) rfl ?_ ?_
  rotate_left 2
  · go_simp
    constructor
    rotate_left
    · rfl
    rfl
  refine hK.out _ _ ⟨(blk_cell BK477.out 0).trans rfl, (blk_cell BK477.out 1).trans rfl, trivial⟩ (fun hHeld => ?_)
  clear hK K
  refine norm_ (a' := ?_) ?_ ?_
  rotate_left
  · show Act.put _ (some 23) _ = _
    simp only [Act.put, s_1, s_2, s_3, i64_w, i32_w]
    rfl
  refine pua 7 4 (bs_ 9 255) HT_ ?_
  refine pua 8 5 (bs_ 9 511) HT_ ?_
  refine done_ (done_of HT_.out (by kernel_rfl)) ?_
  try go_wp2
  go_ret2
  exact ⟨by first | rfl | (simp [errW_none, errW_some] <;> rfl) | (simp [*, errW_none, errW_some] <;> rfl), bB HB⟩
end Go.Proofs.Ytmpcefcgboljkaa.P
