-- Texts of this session's own program (wip/dr.py), which runs the kit's printer.
import Derived.Test.YtmpcefcgboljkaaPx0
import Derived.Test.YtmpcefcgboljkaaPx1
import Derived.Test.YtmpcefcgboljkaaPx20
import Derived.Test.YtmpcefcgboljkaaPx44
namespace Go.Proofs.Ytmpcefcgboljkaa.P
open Go.RowKit Go.Proofs.YtmpcefcgboljkaaW.PrintWords Go.Proofs.YtmpcefcgboljkaaW.PrintLast Go.Proofs.YtmpcefcgboljkaaW.PrintMore
attribute [local go_sem] max2_int min2_int max_two min_two max_three min_three max_four min_four   -- for this text's walks alone
set_option linter.unusedVariables false
set_option linter.unusedSimpArgs false

/-! ### spec_BackRing: function 13 -/
mutual
def spec_BackRing.j0 : Nat → ByteArray → Bool → Option (ByteArray × Bool)
  | 0, _, _ => none
  | k + 1, x1, x16 => if x16 = true then (some ((⟨#[]⟩ : ByteArray), false)) else (spec_BackRing.l0 k x1 (⟨#[]⟩ : ByteArray) (wrap64 ((x1.size : Int) - 1)))
def spec_BackRing.l0 : Nat → ByteArray → ByteArray → Int → Option (ByteArray × Bool)
  | 0, _, _, _ => none
  | k + 1, x1, x6, x7 => if x7 ≥ 0 then (if 0 ≤ x7 then (if x7 ≤ (wrap64 (x7 + 1)) then (if (wrap64 (x7 + 1)) ≤ (x1.size : Int) then (if x6.size + (x1.extract (x7 : Int).toNat ((wrap64 (x7 + 1)) : Int).toNat).size ≤ 9223372036854775807 then (spec_BackRing.l0 k x1 (x6 ++ (x1.extract (x7 : Int).toNat ((wrap64 (x7 + 1)) : Int).toNat)) (wrap64 (x7 - 1))) else (none)) else (none)) else (none)) else (none)) else (some (x6, true))
end
def spec_BackRing.f (k : Nat) (a0_0 : Int) (a0_1 : Int) (a1 : ByteArray) : Option (ByteArray × Bool) := (spec_riGood.f k a0_0 a0_1).bind fun t401 => (if t401 = true then ((spec_riRing.f k a0_0 a0_1 a1).bind fun t402 => (spec_BackRing.j0 k a1 (!t402))) else (spec_BackRing.j0 k a1 true))
theorem spec_BackRing.mono_l : ∀ k, (∀ y0 y1, LeO (spec_BackRing.j0 k y0 y1) (spec_BackRing.j0 (k + 1) y0 y1)) ∧ (∀ y0 y1 y2, LeO (spec_BackRing.l0 k y0 y1 y2) (spec_BackRing.l0 (k + 1) y0 y1 y2))
  | 0 => ⟨fun _ _ r h => by simp [spec_BackRing.j0] at h, fun _ _ _ r h => by simp [spec_BackRing.l0] at h⟩
  | k + 1 => by
    obtain ⟨ih0, ih1⟩ := spec_BackRing.mono_l k
    refine ⟨?_, ?_⟩
    rotate_left
    · intro y0 y1 y2
      unfold spec_BackRing.l0
      repeat' first
      | (with_reducible exact ih0 _ _)
      | (with_reducible exact ih1 _ _ _)
      | (with_reducible exact spec_riGood.mono _ _ _)
      | (with_reducible exact spec_riRing.mono _ _ _ _)
      | (with_reducible exact LeO.refl _)
      | (with_reducible exact LeO.none _)
      | (with_reducible refine LeO.ite ?_ ?_)
      | (with_reducible refine LeO.bind ?_ (fun _ => ?_))
      | exact ih0 _ _
      | exact ih1 _ _ _
      | exact spec_riGood.mono _ _ _
      | exact spec_riRing.mono _ _ _ _
      | exact LeO.none _
      | refine LeO.ite ?_ ?_
      | refine LeO.bind ?_ (fun _ => ?_)
    intro y0 y1
    unfold spec_BackRing.j0
    repeat' first
    | (with_reducible exact ih0 _ _)
    | (with_reducible exact ih1 _ _ _)
    | (with_reducible exact spec_riGood.mono _ _ _)
    | (with_reducible exact spec_riRing.mono _ _ _ _)
    | (with_reducible exact LeO.refl _)
    | (with_reducible exact LeO.none _)
    | (with_reducible refine LeO.ite ?_ ?_)
    | (with_reducible refine LeO.bind ?_ (fun _ => ?_))
    | exact ih0 _ _
    | exact ih1 _ _ _
    | exact spec_riGood.mono _ _ _
    | exact spec_riRing.mono _ _ _ _
    | exact LeO.none _
    | refine LeO.ite ?_ ?_
    | refine LeO.bind ?_ (fun _ => ?_)
theorem spec_BackRing.mono : ∀ a0 a1 a2 k, LeO (spec_BackRing.f k a0 a1 a2) (spec_BackRing.f (k + 1) a0 a1 a2) := by
  intro a0 a1 a2 k
  obtain ⟨ih0, ih1⟩ := spec_BackRing.mono_l k
  unfold spec_BackRing.f
  repeat' first
      | (with_reducible exact ih0 _ _)
      | (with_reducible exact ih1 _ _ _)
      | (with_reducible exact spec_riGood.mono _ _ _)
      | (with_reducible exact spec_riRing.mono _ _ _ _)
      | (with_reducible exact LeO.refl _)
      | (with_reducible exact LeO.none _)
      | (with_reducible refine LeO.ite ?_ ?_)
      | (with_reducible refine LeO.bind ?_ (fun _ => ?_))
      | exact ih0 _ _
      | exact ih1 _ _ _
      | exact spec_riGood.mono _ _ _
      | exact spec_riRing.mono _ _ _ _
      | exact LeO.none _
      | refine LeO.ite ?_ ?_
      | refine LeO.bind ?_ (fun _ => ?_)
set_option maxHeartbeats 8000000 in
set_option maxRecDepth 100000 in
theorem spec_BackRing.calls (k : Nat) (a0_0 : Int) (a0_1 : Int) (a1 : ByteArray) (r1 : ByteArray) (r2 : Bool) (w : World) (h : spec_BackRing.f k a0_0 a0_1 a1 = some (r1, r2)) :
    Calls Try.prog 13 #[.agg #[.int .i64 a0_0, .int .i64 a0_1], .string a1] w fun e w' => e = .returned (.tuple #[.string r1, .bool r2]) ∧ Below w.heap.size w w' := by
  have hu26 := Try.underlying26
  have HB := Aside0.mk (Below.refl w.heap.size w)
  have H : ((spec_riGood.f k a0_0 a0_1).bind fun t401 => (if t401 = true then ((spec_riRing.f k a0_0 a0_1 a1).bind fun t402 => (spec_BackRing.j0 k a1 (!t402))) else (spec_BackRing.j0 k a1 true))) = some (r1, r2) := h
  clear h
  have HC3 := Aside0.mk H
  clear H
  go_enter Try.func13, Try.ntmps13
  go_upto_region 1 with (first | ((with_reducible refine gate_dst (N := 2) rfl ?_); refine box_event ?hg (N := 2) ?hd (cs := #[.int .i64 a0_0, .int .i64 a0_1]) (t := 26) ?hr ?_; (case hd => rfl); (case hg => rfl); (case hr => first | (go_simp; done) | (go_simp; rfl)); intro gb400 hg w4 hbox hb; have n0_ := bsx hb HB; have n1_ := Aside0.mk (hbox); have n2_ := gwx hg HB; have n3_ := n2_; clear HB; have HB := n0_; have BK400 := n1_; have GW400 := n2_; have GE400 := n3_; clear n0_ n1_ n2_ n3_; clear hb hbox hg))
  (try simp only [Act.put, s_1, s_2, s_3])
  go_cut [16] (fun v16 wc => ∃ (kq : Nat) (x16_2 : Bool), v16 = .bool x16_2 ∧ Aside0 (spec_BackRing.j0 kq a1 x16_2 = some (r1, r2)) ∧ Aside0 (kq ≤ k) ∧ Aside0 (wc.heap[gb400]? = some (.cells #[.int .i64 a0_0, .int .i64 a0_1] 26 (0, 0))) ∧ Aside0 (Below w.heap.size w wc))
  case first =>
    have H := HC3.out
    clear HC3
    replace H := Option.bind_eq_some_iff.mp H
    obtain ⟨t401, A50, H⟩ := H
    try dsimp only at H
    have A5 := Aside0.mk A50
    clear A50
    by_cases c6 : t401 = true
    rotate_left
    · replace c6 := Bool.eq_false_iff.mpr c6
      subst c6
      rw [if_neg (show ¬ (false = true) by decide)] at H
      have H' := Aside0.mk H
      clear H
      have hcz12_0 := cz0 BK400
      have hcz12_1 := cz1 BK400
      have hfz12_0 := blk_frozen BK400.out 0
      have hfz12_1 := blk_frozen BK400.out 1
      go_wp2_with (first | ((with_reducible refine gate_callee (f := 25) rfl ?_); refine goesL_ (some 9) rfl rfl Try.func25 (by kernel_rfl) rfl #[.agg #[.int .i64 a0_0, .int .i64 a0_1]] rfl (by (try simp only [m_1, m_2, m_3]); first | done | rfl | (simp only [m_4, m_5]; rfl)) ?_; (with_reducible refine (spec_riGood.calls k a0_0 a0_1 false _ A5.out).mono ?_); rintro e w13 ⟨rfl, hb⟩; refine ⟨_, rfl, ?_⟩; replace BK400 := bbx hb BK400; replace HB := bsx hb HB; skip; (try clear hb); (try clear hb2); (try clear hk); (try clear hi)))
      go_meet
      case rel => exact ⟨_, (true), (by first | rfl | (simp; done) | (simp [*]; done)), H', ⟨by first | omega | exact Nat.le_refl _⟩, ⟨bK BK400⟩, ⟨bB HB⟩⟩
    subst c6
    rw [if_pos rfl] at H
    replace H := Option.bind_eq_some_iff.mp H
    obtain ⟨t402, A70, H⟩ := H
    try dsimp only at H
    have A7 := Aside0.mk A70
    clear A70
    have H' := Aside0.mk H
    clear H
    have hcz8_0 := cz0 BK400
    have hcz8_1 := cz1 BK400
    have hfz8_0 := blk_frozen BK400.out 0
    have hfz8_1 := blk_frozen BK400.out 1
    go_wp2_with (first | ((with_reducible refine gate_callee (f := 25) rfl ?_); refine goesL_ (some 9) rfl rfl Try.func25 (by kernel_rfl) rfl #[.agg #[.int .i64 a0_0, .int .i64 a0_1]] rfl (by (try simp only [m_1, m_2, m_3]); first | done | rfl | (simp only [m_4, m_5]; rfl)) ?_; (with_reducible refine (spec_riGood.calls k a0_0 a0_1 true _ A5.out).mono ?_); rintro e w9 ⟨rfl, hb⟩; refine ⟨_, rfl, ?_⟩; replace BK400 := bbx hb BK400; replace HB := bsx hb HB; skip; (try clear hb); (try clear hb2); (try clear hk); (try clear hi); have hcz10_0 := cz0 BK400; have hcz10_1 := cz1 BK400; have hfz10_0 := blk_frozen BK400.out 0; have hfz10_1 := blk_frozen BK400.out 1) | (go_at_call 34; (with_reducible refine (spec_riRing.calls k a0_0 a0_1 a1 t402 _ A7.out).mono ?_); rintro e w11 ⟨rfl, hb⟩; replace BK400 := bbx hb BK400; replace HB := bsx hb HB; skip; (try clear hb); (try clear hb2); (try clear hk); (try clear hi)))
    go_meet
    case rel => exact ⟨_, (!t402), (by first | rfl | (simp; done) | (simp [*]; done)), H', ⟨by first | omega | exact Nat.le_refl _⟩, ⟨bK BK400⟩, ⟨bB HB⟩⟩
  clear HC3
  obtain ⟨kq, x16_2, rfl, HA, HJ2, BK400, HB⟩ := hcut
  rcases kq with _ | kj2
  · exact absurd HA.out (by simp [spec_BackRing.j0])
  have H := HA.out
  clear HA
  simp only [spec_BackRing.j0] at H
  by_cases c14 : x16_2 = true
  · subst c14
    rw [if_pos rfl] at H
    simp only [Option.some.injEq, Prod.mk.injEq] at H
    obtain ⟨rfl, rfl⟩ := H
    go_wp2
    go_ret2
    exact ⟨by first | rfl | (simp [errW_none, errW_some] <;> rfl) | (simp [*, errW_none, errW_some] <;> rfl), bB HB⟩
  replace c14 := Bool.eq_false_iff.mpr c14
  subst c14
  rw [if_neg (show ¬ (false = true) by decide)] at H
  have H' := Aside0.mk H
  clear H
  go_wp2
  go_loopg [6, 7] kj2 (fun kq v6 v7 w' => ∃ (x6_2 : ByteArray) (x7_2 : Int), v6 = .string x6_2 ∧ v7 = .int .i64 x7_2 ∧ Aside0 (spec_BackRing.l0 kq a1 x6_2 x7_2 = some (r1, r2)) ∧ Aside0 (kq ≤ kj2) ∧ Aside0 (w'.heap[gb400]? = some (.cells #[.int .i64 a0_0, .int .i64 a0_1] 26 (0, 0))) ∧ Aside0 (Below w.heap.size w w'))
  case atStart => exact ⟨((⟨#[]⟩ : ByteArray)), (wrap64 ((a1.size : Int) - 1)), (by first | rfl | (simp; done) | (simp [*]; done)), (by first | rfl | (simp; done) | (simp [*]; done)), H', ⟨Nat.le_refl _⟩, ⟨bK BK400⟩, ⟨bB HB⟩⟩
  clear H'
  try clear c14
  obtain ⟨x6_2, x7_2, rfl, rfl, HA, HK2, BK400, HB⟩ := hrel
  rcases gk with _ | k2
  · exact absurd HA.out (by simp [spec_BackRing.l0])
  have H := HA.out
  clear HA
  simp only [spec_BackRing.l0] at H
  by_cases c15 : x7_2 ≥ 0
  rotate_left
  · rw [if_neg c15] at H
    have c15b0 : decide (0 ≤ x7_2) = false := decide_eq_false c15
    clear c15
    simp only [Option.some.injEq, Prod.mk.injEq] at H
    obtain ⟨rfl, rfl⟩ := H
    go_wp2
    go_ret2
    exact ⟨by first | rfl | (simp [errW_none, errW_some] <;> rfl) | (simp [*, errW_none, errW_some] <;> rfl), bB HB⟩

  rw [if_pos c15] at H
  have c15b0 : decide (0 ≤ x7_2) = true := decide_eq_true c15
  clear c15
  by_cases c16 : 0 ≤ x7_2
  rotate_left
  · rw [if_neg c16] at H
    exact absurd H (by simp)
  rw [if_pos c16] at H
  have c16b0 := eq_true c16
  have c16b1 : decide (0 ≤ x7_2) = true := decide_eq_true c16
  clear c16
  by_cases c17 : x7_2 ≤ (wrap64 (x7_2 + 1))
  rotate_left
  · rw [if_neg c17] at H
    exact absurd H (by simp)
  rw [if_pos c17] at H
  have c17b0 := eq_true c17
  have c17b1 : decide (x7_2 ≤ (wrap64 (x7_2 + 1))) = true := decide_eq_true c17
  by_cases c18 : (wrap64 (x7_2 + 1)) ≤ (a1.size : Int)
  rotate_left
  · rw [if_neg c18] at H
    exact absurd H (by simp)
  rw [if_pos c18] at H
  have c18b0 := eq_true c18
  have c18b1 : decide ((wrap64 (x7_2 + 1)) ≤ (a1.size : Int)) = true := decide_eq_true c18
  by_cases c19 : x6_2.size + (a1.extract (x7_2 : Int).toNat ((wrap64 (x7_2 + 1)) : Int).toNat).size ≤ 9223372036854775807
  rotate_left
  · rw [if_neg c19] at H
    exact absurd H (by simp)
  rw [if_pos c19] at H
  have c19b0 := eq_true c19
  have c19b1 : decide (x6_2.size + (a1.extract (x7_2 : Int).toNat ((wrap64 (x7_2 + 1)) : Int).toNat).size ≤ 9223372036854775807) = true := decide_eq_true c19
  try have c19b2 : (9223372036854775807 < x6_2.size + (a1.extract (x7_2 : Int).toNat ((wrap64 (x7_2 + 1)) : Int).toNat).size) = False := eq_false (Nat.not_lt.2 c19)
  have H' := Aside0.mk H
  clear H
  go_wp2
  go_roundg k2
  case measure => have := HJ2.out; have := HK2.out; omega
  case rel => exact ⟨(x6_2 ++ (a1.extract (x7_2 : Int).toNat ((wrap64 (x7_2 + 1)) : Int).toNat)), (wrap64 (x7_2 - 1)), (by first | rfl | (simp; done) | (simp [*]; done)), (by first | rfl | (simp; done) | (simp [*]; done)), H', ⟨by have := HJ2.out; have := HK2.out; omega⟩, ⟨bK BK400⟩, ⟨bB HB⟩⟩
/-! ### laws_eTexts: function 14 -/
def laws_eTexts.l0 : Nat → List ByteArray → List ByteArray → Int → Int → Option (Bool)
  | 0, _, _, _, _ => none
  | k + 1, x0, x1, x12, x13 => if x13 < x12 then (if 0 ≤ x13 then (if x13 < (x0.length : Int) then (if x13 < (x1.length : Int) then (if (rdOf ByteArray.empty x0 x13).toList = (rdOf ByteArray.empty x1 x13).toList then (laws_eTexts.l0 k x0 x1 x12 (wrap64 (x13 + 1))) else (some false)) else (none)) else (none)) else (none)) else (some true)
def laws_eTexts.f (k : Nat) (l0 : List ByteArray) (l1 : List ByteArray) : Option (Bool) := if (l0.length : Int) = (l1.length : Int) then (laws_eTexts.l0 k l0 l1 (l0.length : Int) 0) else (some false)
theorem laws_eTexts.mono_l : ∀ k, (∀ y0 y1 y2 y3, LeO (laws_eTexts.l0 k y0 y1 y2 y3) (laws_eTexts.l0 (k + 1) y0 y1 y2 y3))
  | 0 => fun _ _ _ _ r h => by simp [laws_eTexts.l0] at h
  | k + 1 => by
    have ih0 := laws_eTexts.mono_l k
    · intro y0 y1 y2 y3
      unfold laws_eTexts.l0
      repeat' first
      | (with_reducible exact ih0 _ _ _ _)
      | (with_reducible exact LeO.refl _)
      | (with_reducible exact LeO.none _)
      | (with_reducible refine LeO.ite ?_ ?_)
      | (with_reducible refine LeO.bind ?_ (fun _ => ?_))
      | exact ih0 _ _ _ _
      | exact LeO.none _
      | refine LeO.ite ?_ ?_
      | refine LeO.bind ?_ (fun _ => ?_)
theorem laws_eTexts.mono : ∀ a0 a1 k, LeO (laws_eTexts.f k a0 a1) (laws_eTexts.f (k + 1) a0 a1) := by
  intro a0 a1 k
  have ih0 := laws_eTexts.mono_l k
  unfold laws_eTexts.f
  repeat' first
      | (with_reducible exact ih0 _ _ _ _)
      | (with_reducible exact LeO.refl _)
      | (with_reducible exact LeO.none _)
      | (with_reducible refine LeO.ite ?_ ?_)
      | (with_reducible refine LeO.bind ?_ (fun _ => ?_))
      | exact ih0 _ _ _ _
      | exact LeO.none _
      | refine LeO.ite ?_ ?_
      | refine LeO.bind ?_ (fun _ => ?_)
set_option maxHeartbeats 8000000 in
set_option maxRecDepth 100000 in
theorem laws_eTexts.calls (k : Nat) (A0 : Option Addr) (c0 : Nat) (l0 : List ByteArray) (A1 : Option Addr) (c1 : Nat) (l1 : List ByteArray) (r : Bool) (w : World) (hr0 : Kd.C Kd.string w A0 l0.length l0) (hc0 : l0.length ≤ c0) (hr1 : Kd.C Kd.string w A1 l1.length l1) (hc1 : l1.length ≤ c1) (h : laws_eTexts.f k l0 l1 = some r) :
    Calls Try.prog 14 #[.slice A0 l0.length c0, .slice A1 l1.length c1] w fun e w' => e = .returned (.bool r) ∧ Drawn0 w w' := by
  have HR0 := Aside0.mk hr0
  have HC0 := Aside0.mk hc0
  clear hr0 hc0
  have HR1 := Aside0.mk hr1
  have HC1 := Aside0.mk hc1
  clear hr1 hc1
  have H : (if (l0.length : Int) = (l1.length : Int) then (laws_eTexts.l0 k l0 l1 (l0.length : Int) 0) else (some false)) = some r := h
  clear h
  by_cases c3 : (l0.length : Int) = (l1.length : Int)
  rotate_left
  · rw [if_neg c3] at H
    have c3b0 : ((l0.length : Int) == (l1.length : Int)) = false := beq_eq_false_iff_ne.mpr c3
    have c3b1 : ((l0.length : Int) != (l1.length : Int)) = true := bne_iff_ne.mpr c3
    have c3b2 : (l0.length == l1.length) = false := by first | simpa using c3 | (simp at c3 ⊢; omega)
    obtain rfl := Option.some.inj H
    go_enter Try.func14, Try.ntmps14
    go_wp2
    repeat (go_quiet (fail); try go_wp2)
    go_ret
    exact ⟨by first | rfl | (simp; done) | (simp [*]; done), by repeat (first | exact Drawn0.refl _ | apply Drawn0.step)⟩

  rw [if_pos c3] at H
  have c3b0 : ((l0.length : Int) == (l1.length : Int)) = true := beq_iff_eq.mpr c3
  have c3b1 : ((l0.length : Int) != (l1.length : Int)) = false := bne_eq_false_iff_eq.mpr c3
  have c3b2 : (l0.length == l1.length) = true := by first | simpa using c3 | (simp at c3 ⊢; omega)
  clear c3
  have H' := Aside0.mk H
  clear H
  go_enter Try.func14, Try.ntmps14
  go_wp2
  repeat (go_quiet (fail); try go_wp2)
  go_loopg [13] k (fun kq v13 w' => ∃ (x13_1 : Int), v13 = .int .i64 x13_1 ∧ Aside0 (laws_eTexts.l0 kq l0 l1 (l0.length : Int) x13_1 = some r) ∧ Aside0 (kq ≤ k) ∧ Drawn0 w w')
  case atStart => exact ⟨(0), (by first | rfl | (simp; done) | (simp [*]; done)), H', ⟨Nat.le_refl _⟩, by repeat (first | exact Drawn0.refl _ | apply Drawn0.step)⟩
  clear H'
  try clear c1
  try clear c3
  try clear c3b0
  try clear c3b1
  try clear c3b2
  obtain ⟨x13_1, rfl, HA, HK1, ⟨m1, rfl⟩⟩ := hrel
  rcases gk with _ | k1
  · exact absurd HA.out (by simp [laws_eTexts.l0])
  have H := HA.out
  clear HA
  simp only [laws_eTexts.l0] at H
  by_cases c4 : x13_1 < (l0.length : Int)
  rotate_left
  · rw [if_neg c4] at H
    have c4b0 : decide (x13_1 < (l0.length : Int)) = false := decide_eq_false c4
    clear c4
    obtain rfl := Option.some.inj H
    go_wp2
    repeat (go_quiet (fail); try go_wp2)
    go_ret
    exact ⟨by first | rfl | (simp; done) | (simp [*]; done), by repeat (first | exact Drawn0.refl _ | apply Drawn0.step)⟩
  rw [if_pos c4] at H
  have c4b0 : decide (x13_1 < (l0.length : Int)) = true := decide_eq_true c4
  clear c4
  by_cases c5 : 0 ≤ x13_1
  rotate_left
  · rw [if_neg c5] at H
    exact absurd H (by simp)
  rw [if_pos c5] at H
  have c5b0 : decide (0 ≤ x13_1) = true := decide_eq_true c5
  clear c5
  by_cases c6 : x13_1 < (l0.length : Int)
  rotate_left
  · rw [if_neg c6] at H
    exact absurd H (by simp)
  rw [if_pos c6] at H
  have c6b0 : decide (x13_1 < (l0.length : Int)) = true := decide_eq_true c6
  clear c6
  by_cases c7 : x13_1 < (l1.length : Int)
  rotate_left
  · rw [if_neg c7] at H
    exact absurd H (by simp)
  rw [if_pos c7] at H
  have c7b0 : decide (x13_1 < (l1.length : Int)) = true := decide_eq_true c7
  clear c7
  by_cases c8 : (rdOf ByteArray.empty l0 x13_1).toList = (rdOf ByteArray.empty l1 x13_1).toList
  rotate_left
  · rw [if_neg c8] at H
    have c8b0 : ((rdOf ByteArray.empty l0 x13_1).toList == (rdOf ByteArray.empty l1 x13_1).toList) = false := beq_eq_false_iff_ne.mpr c8
    have c8b1 : ((rdOf ByteArray.empty l0 x13_1).toList != (rdOf ByteArray.empty l1 x13_1).toList) = true := bne_iff_ne.mpr c8
    obtain rfl := Option.some.inj H
    have p403 : 0 ≤ (x13_1 : Int) := of_decide_eq_true (by first | (with_reducible assumption) | assumption)
    have q403 : x13_1 < (l0.length : Int) := of_decide_eq_true (by first | (with_reducible assumption) | assumption)
    obtain ⟨ad403, e403, hx403_0⟩ := Kd.at_string HR0.out x13_1 p403 q403
    cases e403
    replace p403 := eq_true p403
    replace q403 := eq_true q403
    have p404 : 0 ≤ (x13_1 : Int) := of_decide_eq_true (by first | (with_reducible assumption) | assumption)
    have q404 : x13_1 < (l1.length : Int) := of_decide_eq_true (by first | (with_reducible assumption) | assumption)
    obtain ⟨ad404, e404, hx404_0⟩ := Kd.at_string HR1.out x13_1 p404 q404
    cases e404
    replace p404 := eq_true p404
    replace q404 := eq_true q404
    go_wp2
    repeat (go_quiet (fail); try go_wp2)
    go_ret
    exact ⟨by first | rfl | (simp; done) | (simp [*]; done), by repeat (first | exact Drawn0.refl _ | apply Drawn0.step)⟩
  rw [if_pos c8] at H
  have c8b0 : ((rdOf ByteArray.empty l0 x13_1).toList == (rdOf ByteArray.empty l1 x13_1).toList) = true := beq_iff_eq.mpr c8
  have c8b1 : ((rdOf ByteArray.empty l0 x13_1).toList != (rdOf ByteArray.empty l1 x13_1).toList) = false := bne_eq_false_iff_eq.mpr c8
  clear c8
  have H' := Aside0.mk H
  clear H
  have p403 : 0 ≤ (x13_1 : Int) := of_decide_eq_true (by first | (with_reducible assumption) | assumption)
  have q403 : x13_1 < (l0.length : Int) := of_decide_eq_true (by first | (with_reducible assumption) | assumption)
  obtain ⟨ad403, e403, hx403_0⟩ := Kd.at_string HR0.out x13_1 p403 q403
  cases e403
  replace p403 := eq_true p403
  replace q403 := eq_true q403
  have p404 : 0 ≤ (x13_1 : Int) := of_decide_eq_true (by first | (with_reducible assumption) | assumption)
  have q404 : x13_1 < (l1.length : Int) := of_decide_eq_true (by first | (with_reducible assumption) | assumption)
  obtain ⟨ad404, e404, hx404_0⟩ := Kd.at_string HR1.out x13_1 p404 q404
  cases e404
  replace p404 := eq_true p404
  replace q404 := eq_true q404
  go_wp2
  repeat (go_quiet (fail); try go_wp2)
  go_roundg k1
  case measure => have := HK1.out; omega
  case rel => exact ⟨(wrap64 (x13_1 + 1)), (by first | rfl | (simp; done) | (simp [*]; done)), H', ⟨by have := HK1.out; omega⟩, by repeat (first | exact Drawn0.refl _ | apply Drawn0.step)⟩
/-! ### impl_LeastRing: function 15 -/
def impl_LeastRing.f (k : Nat) (a0_0 : Int) (a0_1 : Int) : Option (ByteArray × Bool) := (impl_isRounded.f k a0_0 a0_1).bind fun t406 => (if t406 = true then ((impl_Lock_ring.f k a0_0 a0_1).bind fun t407 => (some (t407, true))) else (some ((⟨#[]⟩ : ByteArray), false)))
theorem impl_LeastRing.mono : ∀ a0 a1 k, LeO (impl_LeastRing.f k a0 a1) (impl_LeastRing.f (k + 1) a0 a1) := by
  intro a0 a1 k
  unfold impl_LeastRing.f
  repeat' first
      | (with_reducible exact impl_Lock_ring.mono _ _ _)
      | (with_reducible exact impl_isRounded.mono _ _ _)
      | (with_reducible exact LeO.refl _)
      | (with_reducible exact LeO.none _)
      | (with_reducible refine LeO.ite ?_ ?_)
      | (with_reducible refine LeO.bind ?_ (fun _ => ?_))
      | exact impl_Lock_ring.mono _ _ _
      | exact impl_isRounded.mono _ _ _
      | exact LeO.none _
      | refine LeO.ite ?_ ?_
      | refine LeO.bind ?_ (fun _ => ?_)
set_option maxHeartbeats 8000000 in
set_option maxRecDepth 100000 in
theorem impl_LeastRing.calls (k : Nat) (a0_0 : Int) (a0_1 : Int) (r1 : ByteArray) (r2 : Bool) (w : World) (h : impl_LeastRing.f k a0_0 a0_1 = some (r1, r2)) :
    Calls Try.prog 15 #[.agg #[.int .i64 a0_0, .int .i64 a0_1]] w fun e w' => e = .returned (.tuple #[.string r1, .bool r2]) ∧ Below w.heap.size w w' := by
  have hu26 := Try.underlying26
  have HB := Aside0.mk (Below.refl w.heap.size w)
  have H : ((impl_isRounded.f k a0_0 a0_1).bind fun t406 => (if t406 = true then ((impl_Lock_ring.f k a0_0 a0_1).bind fun t407 => (some (t407, true))) else (some ((⟨#[]⟩ : ByteArray), false)))) = some (r1, r2) := h
  clear h
  replace H := Option.bind_eq_some_iff.mp H
  obtain ⟨t406, A20, H⟩ := H
  try dsimp only at H
  have A2 := Aside0.mk A20
  clear A20
  by_cases c3 : t406 = true
  rotate_left
  · replace c3 := Bool.eq_false_iff.mpr c3
    subst c3
    rw [if_neg (show ¬ (false = true) by decide)] at H
    simp only [Option.some.injEq, Prod.mk.injEq] at H
    obtain ⟨rfl, rfl⟩ := H
    go_enter Try.func15, Try.ntmps15
    go_wp2_with (first | ((with_reducible refine gate_dst (N := 1) rfl ?_); refine box_event ?hg (N := 1) ?hd (cs := #[.int .i64 a0_0, .int .i64 a0_1]) (t := 26) ?hr ?_; (case hd => rfl); (case hg => rfl); (case hr => first | (go_simp; done) | (go_simp; rfl)); intro gb405 hg w10 hbox hb; have n0_ := bsx hb HB; have n1_ := Aside0.mk (hbox); have n2_ := gwx hg HB; have n3_ := n2_; clear HB; have HB := n0_; have BK405 := n1_; have GW405 := n2_; have GE405 := n3_; clear n0_ n1_ n2_ n3_; clear hb hbox hg; have hcz11_0 := cz0 BK405; have hcz11_1 := cz1 BK405; have hfz11_0 := blk_frozen BK405.out 0; have hfz11_1 := blk_frozen BK405.out 1) | ((with_reducible refine gate_callee (f := 29) rfl ?_); refine goesL_ (some 5) rfl rfl Try.func29 (by kernel_rfl) rfl #[.agg #[.int .i64 a0_0, .int .i64 a0_1]] rfl (by (try simp only [m_1, m_2, m_3]); first | done | rfl | (simp only [m_4, m_5]; rfl)) ?_; (with_reducible refine (impl_isRounded.calls k a0_0 a0_1 false _ A2.out).mono ?_); rintro e w12 ⟨rfl, hb⟩; refine ⟨_, rfl, ?_⟩; replace BK405 := bbx hb BK405; replace HB := bsx hb HB; skip; (try clear hb); (try clear hb2); (try clear hk); (try clear hi)))
    go_ret2
    exact ⟨by first | rfl | (simp [errW_none, errW_some] <;> rfl) | (simp [*, errW_none, errW_some] <;> rfl), bB HB⟩

  subst c3
  rw [if_pos rfl] at H
  replace H := Option.bind_eq_some_iff.mp H
  obtain ⟨t407, A40, H⟩ := H
  try dsimp only at H
  have A4 := Aside0.mk A40
  clear A40
  simp only [Option.some.injEq, Prod.mk.injEq] at H
  obtain ⟨rfl, rfl⟩ := H
  go_enter Try.func15, Try.ntmps15
  go_wp2_with (first | ((with_reducible refine gate_dst (N := 1) rfl ?_); refine box_event ?hg (N := 1) ?hd (cs := #[.int .i64 a0_0, .int .i64 a0_1]) (t := 26) ?hr ?_; (case hd => rfl); (case hg => rfl); (case hr => first | (go_simp; done) | (go_simp; rfl)); intro gb405 hg w5 hbox hb; have n0_ := bsx hb HB; have n1_ := Aside0.mk (hbox); have n2_ := gwx hg HB; have n3_ := n2_; clear HB; have HB := n0_; have BK405 := n1_; have GW405 := n2_; have GE405 := n3_; clear n0_ n1_ n2_ n3_; clear hb hbox hg; have hcz6_0 := cz0 BK405; have hcz6_1 := cz1 BK405; have hfz6_0 := blk_frozen BK405.out 0; have hfz6_1 := blk_frozen BK405.out 1) | ((with_reducible refine gate_callee (f := 29) rfl ?_); refine goesL_ (some 5) rfl rfl Try.func29 (by kernel_rfl) rfl #[.agg #[.int .i64 a0_0, .int .i64 a0_1]] rfl (by (try simp only [m_1, m_2, m_3]); first | done | rfl | (simp only [m_4, m_5]; rfl)) ?_; (with_reducible refine (impl_isRounded.calls k a0_0 a0_1 true _ A2.out).mono ?_); rintro e w7 ⟨rfl, hb⟩; refine ⟨_, rfl, ?_⟩; replace BK405 := bbx hb BK405; replace HB := bsx hb HB; skip; (try clear hb); (try clear hb2); (try clear hk); (try clear hi); have hcz8_0 := cz0 BK405; have hcz8_1 := cz1 BK405; have hfz8_0 := blk_frozen BK405.out 0; have hfz8_1 := blk_frozen BK405.out 1) | ((with_reducible refine gate_callee (f := 31) rfl ?_); refine goesL_ (some 8) rfl rfl Try.func31 (by kernel_rfl) rfl #[.agg #[.int .i64 a0_0, .int .i64 a0_1]] rfl (by (try simp only [m_1, m_2, m_3]); first | done | rfl | (simp only [m_4, m_5]; rfl)) ?_; (with_reducible refine (impl_Lock_ring.calls k a0_0 a0_1 t407 _ A4.out).mono ?_); rintro e w9 ⟨rfl, hb⟩; refine ⟨_, rfl, ?_⟩; replace BK405 := bbx hb BK405; replace HB := bsx hb HB; skip; (try clear hb); (try clear hb2); (try clear hk); (try clear hi)))
  go_ret2
  exact ⟨by first | rfl | (simp [errW_none, errW_some] <;> rfl) | (simp [*, errW_none, errW_some] <;> rfl), bB HB⟩
/-! ### impl_digits: function 36 -/
def impl_digits.l0 : Nat → ByteArray → List Int → Int → Int → Option (List Int)
  | 0, _, _, _, _ => none
  | k + 1, x0, x3, x7, x8 => if x8 < x7 then (if 0 ≤ x8 then (if x8 < (x0.size : Int) then (if x3.length < 17592186044416 then (impl_digits.l0 k x0 (x3 ++ [((bt x0 x8) - 48) % 256]) x7 (wrap64 (x8 + 1))) else (none)) else (none)) else (none)) else (some x3)
def impl_digits.f (k : Nat) (a0 : ByteArray) : Option (List Int) := impl_digits.l0 k a0 (([] : List Int)) (a0.size : Int) 0
theorem impl_digits.mono_l : ∀ k, (∀ y0 y1 y2 y3, LeO (impl_digits.l0 k y0 y1 y2 y3) (impl_digits.l0 (k + 1) y0 y1 y2 y3))
  | 0 => fun _ _ _ _ r h => by simp [impl_digits.l0] at h
  | k + 1 => by
    have ih0 := impl_digits.mono_l k
    · intro y0 y1 y2 y3
      unfold impl_digits.l0
      repeat' first
      | (with_reducible exact ih0 _ _ _ _)
      | (with_reducible exact LeO.refl _)
      | (with_reducible exact LeO.none _)
      | (with_reducible refine LeO.ite ?_ ?_)
      | (with_reducible refine LeO.bind ?_ (fun _ => ?_))
      | exact ih0 _ _ _ _
      | exact LeO.none _
      | refine LeO.ite ?_ ?_
      | refine LeO.bind ?_ (fun _ => ?_)
theorem impl_digits.mono : ∀ a0 k, LeO (impl_digits.f k a0) (impl_digits.f (k + 1) a0) := by
  intro a0 k
  have ih0 := impl_digits.mono_l k
  unfold impl_digits.f
  repeat' first
      | (with_reducible exact ih0 _ _ _ _)
      | (with_reducible exact LeO.refl _)
      | (with_reducible exact LeO.none _)
      | (with_reducible refine LeO.ite ?_ ?_)
      | (with_reducible refine LeO.bind ?_ (fun _ => ?_))
      | exact ih0 _ _ _ _
      | exact LeO.none _
      | refine LeO.ite ?_ ?_
      | refine LeO.bind ?_ (fun _ => ?_)
set_option maxHeartbeats 8000000 in
set_option maxRecDepth 100000 in
theorem impl_digits.calls (k : Nat) (a0 : ByteArray) (r : List Int) (w : World) (h : impl_digits.f k a0 = some r) :
    Calls Try.prog 36 #[.string a0] w fun e w' => ∃ v0_ : Value, e = .returned (v0_) ∧ Kd.R (Kd.int .i64) 3 w' w.heap.size (fun _ => True) v0_ r ∧ Below w.heap.size w w' := by
  have HB := Aside0.mk (Below.refl w.heap.size w)
  have H : (impl_digits.l0 k a0 (([] : List Int)) (a0.size : Int) 0) = some r := h
  clear h
  obtain ⟨y408, hy408⟩ : ∃ y_ : List Int, y_ = (([] : List Int)) := ⟨_, rfl⟩
  replace H : (impl_digits.l0 k a0 y408 (a0.size : Int) 0) = some r := by first | (rw [hy408]; with_reducible exact H) | (have H2_ := (Option.bind_some _ _).symm.trans H; rw [hy408]; with_reducible exact H2_) | (have H2_ := (Option.bind_some _ _).symm.trans H; with_reducible exact H2_) | with_reducible exact H | (rw [hy408]; exact H) | exact H
  have Ny408 := Aside0.mk hy408
  clear hy408
  have H' := Aside0.mk H
  clear H
  go_enter Try.func36, Try.ntmps36
  go_wp2_with (first | ((with_reducible refine gate_dst (N := 5) rfl ?_); refine Kd.R_lit (Kd.int .i64) _ 3 ?hg (N := 5) ?hd (xs := ([] : List Int)) (inner := []) (ok := fun _ => True) (okp := fun _ => True) ?hr ?hp (fun _ hk => hk) trivial (Below.refl _ _) (Nat.le_refl _) (by simp) ?_; (case hd => rfl); (case hg => rfl); (case hr => first | (go_simp; done) | (go_simp; rfl)); (case hp => exact (Reps.none _ _)); intro v409 w2 ho3 hb hg_ hnew_; clear hg_ hnew_; (first | rw [← Ny408.out] at ho3 | (simp only [Int.reduceToNat] at ho3; rw [← Ny408.out] at ho3)); have n0_ := Aside0.mk (Kd.R_lower ho3 (below_size (bB HB))); have n1_ := bsx hb HB; clear HB; have HO410 := n0_; have HB := n1_; clear n0_ n1_; clear hb ho3))
  go_loopg [3, 8] k (fun kq v3 v8 w' => ∃ (x3_1 : List Int) (x8_1 : Int), v8 = .int .i64 x8_1 ∧ Aside0 (impl_digits.l0 kq a0 x3_1 (a0.size : Int) x8_1 = some r) ∧ Aside0 (kq ≤ k) ∧ Aside0 (Kd.R (Kd.int .i64) 3 w' w.heap.size (fun _ => True) v3 x3_1) ∧ Aside0 (Below w.heap.size w w'))
  case atStart => exact ⟨(y408), (0), (by first | rfl | (simp; done) | (simp [*]; done)), H', ⟨Nat.le_refl _⟩, ⟨by (with_reducible repeat (first | apply r_a | apply r_d | apply r_e)); exact HO410.out⟩, ⟨bB HB⟩⟩
  clear H'
  obtain ⟨x3_1, x8_1, rfl, HA, HK1, HO_3, HB⟩ := hrel
  rcases gk with _ | k1
  · exact absurd HA.out (by simp [impl_digits.l0])
  have H := HA.out
  clear HA
  simp only [impl_digits.l0] at H
  by_cases c4 : x8_1 < (a0.size : Int)
  rotate_left
  · rw [if_neg c4] at H
    have c4b0 : decide (x8_1 < (a0.size : Int)) = false := decide_eq_false c4
    clear c4
    obtain rfl := Option.some.inj H
    go_wp2
    go_ret
    exact ⟨_, by first | rfl | (simp [errW_none, errW_some] <;> rfl) | (simp [*, errW_none, errW_some] <;> rfl), by (with_reducible repeat (first | apply r_a | apply r_d | apply r_e)); exact HO_3.out, bB HB⟩

  rw [if_pos c4] at H
  have c4b0 : decide (x8_1 < (a0.size : Int)) = true := decide_eq_true c4
  clear c4
  by_cases c5 : 0 ≤ x8_1
  rotate_left
  · rw [if_neg c5] at H
    exact absurd H (by simp)
  rw [if_pos c5] at H
  have c5b0 : decide (0 ≤ x8_1) = true := decide_eq_true c5
  clear c5
  by_cases c6 : x8_1 < (a0.size : Int)
  rotate_left
  · rw [if_neg c6] at H
    exact absurd H (by simp)
  rw [if_pos c6] at H
  have c6b0 : decide (x8_1 < (a0.size : Int)) = true := decide_eq_true c6
  clear c6
  by_cases c8 : x3_1.length < 17592186044416
  rotate_left
  · rw [if_neg c8] at H
    exact absurd H (by simp)
  rw [if_pos c8] at H
  have LMc8 := Aside0.mk c8
  clear c8
  obtain ⟨y411, hy411⟩ : ∃ y_ : List Int, y_ = (x3_1 ++ [((bt a0 x8_1) - 48) % 256]) := ⟨_, rfl⟩
  replace H : (impl_digits.l0 k1 a0 y411 (a0.size : Int) (wrap64 (x8_1 + 1))) = some r := by first | (rw [hy411]; with_reducible exact H) | (have H2_ := (Option.bind_some _ _).symm.trans H; rw [hy411]; with_reducible exact H2_) | (have H2_ := (Option.bind_some _ _).symm.trans H; with_reducible exact H2_) | with_reducible exact H | (rw [hy411]; exact H) | exact H
  have Ny411 := Aside0.mk hy411
  clear hy411
  have H' := Aside0.mk H
  clear H
  have p7 : 0 ≤ (x8_1 : Int) := of_decide_eq_true (by first | (with_reducible assumption) | assumption)
  have q7 : x8_1 < (a0.size : Int) := of_decide_eq_true (by first | (with_reducible assumption) | assumption)
  have hx7 := bt_at a0 x8_1
  replace p7 := eq_true p7
  replace q7 := eq_true q7
  go_wp2_with (first | ((with_reducible refine gate_builtin (b := .append) (xs := #[.tmp 11, .tmp 17]) rfl ?_); at_builtin; refine Kd.R_append (Kd.int .i64) (w0 := w) w.heap.size rfl (.tmp 11) (.tmp 17) 50 3 (.int .i64 0) 8 rfl Try.underlying50 info3 rfl (by decide) (by omega) u3 x3_1 (((bt a0 x8_1) - 48) % 256) [.int .i64 (((bt a0 x8_1) - 48) % 256)] (fun _ => True) (fun _ => False) rfl rfl ?aP (fun _ hk => hk.elim) ?aF ?aO ?aB ?aS ?aL ?_; (case aP => exact rfl); (case aB => exact (bB HB)); (case aF => exact (fun _ _ => trivial)); (case aO => exact (by (with_reducible repeat (first | apply r_a | apply r_d | apply r_e)); exact HO_3.out)); (case aS => exact (below_size (bB HB))); (case aL => have := LMc8.out; omega); intro v412 w9 ho hb hg hat; rw [← Ny411.out] at ho; have n0_ := Aside0.mk (hb); have n1_ := Aside0.mk (ho); clear HB; clear HO_3; have HB := n0_; have HO413 := n1_; clear n0_ n1_; clear ho hb hg hat))
  go_roundg k1
  case measure => have := HK1.out; omega
  case rel => exact ⟨(y411), (wrap64 (x8_1 + 1)), (by first | rfl | (simp; done) | (simp [*]; done)), H', ⟨by have := HK1.out; omega⟩, ⟨by (with_reducible repeat (first | apply r_a | apply r_d | apply r_e)); exact HO413.out⟩, ⟨bB HB⟩⟩
/-! ### impl_GreatestRing: function 16 -/
def impl_GreatestRing.l0 : Nat → List Int → Int → Int → Int → Int → Option (ByteArray × Bool)
  | 0, _, _, _, _, _ => none
  | k + 1, x4, x13, x14, x422000, x422001 => if x14 < x13 then (if 0 ≤ x14 then (if x14 < (x4.length : Int) then (impl_GreatestRing.l0 k (x4.set (x14 : Int).toNat (wrap64 ((wrap64 (x422001 - 1)) - (rd x4 x14)))) x13 (wrap64 (x14 + 1)) x422000 x422001) else (none)) else (none)) else ((impl_text.f k x4).bind fun t429 => (some (t429, true)))
def impl_GreatestRing.f (k : Nat) (a0_0 : Int) (a0_1 : Int) : Option (ByteArray × Bool) := (impl_isRounded.f k a0_0 a0_1).bind fun t422 => (if t422 = true then ((impl_Lock_ring.f k a0_0 a0_1).bind fun t423 => ((impl_digits.f k t423).bind fun t424 => (impl_GreatestRing.l0 k t424 (t424.length : Int) 0 a0_0 a0_1))) else (some ((⟨#[]⟩ : ByteArray), false)))
theorem impl_GreatestRing.mono_l : ∀ k, (∀ y0 y1 y2 y3 y4, LeO (impl_GreatestRing.l0 k y0 y1 y2 y3 y4) (impl_GreatestRing.l0 (k + 1) y0 y1 y2 y3 y4))
  | 0 => fun _ _ _ _ _ r h => by simp [impl_GreatestRing.l0] at h
  | k + 1 => by
    have ih0 := impl_GreatestRing.mono_l k
    · intro y0 y1 y2 y3 y4
      unfold impl_GreatestRing.l0
      repeat' first
      | (with_reducible exact ih0 _ _ _ _ _)
      | (with_reducible exact impl_Lock_ring.mono _ _ _)
      | (with_reducible exact impl_digits.mono _ _)
      | (with_reducible exact impl_isRounded.mono _ _ _)
      | (with_reducible exact impl_text.mono _ _)
      | (with_reducible exact LeO.refl _)
      | (with_reducible exact LeO.none _)
      | (with_reducible refine LeO.ite ?_ ?_)
      | (with_reducible refine LeO.bind ?_ (fun _ => ?_))
      | exact ih0 _ _ _ _ _
      | exact impl_Lock_ring.mono _ _ _
      | exact impl_digits.mono _ _
      | exact impl_isRounded.mono _ _ _
      | exact impl_text.mono _ _
      | exact LeO.none _
      | refine LeO.ite ?_ ?_
      | refine LeO.bind ?_ (fun _ => ?_)
theorem impl_GreatestRing.mono : ∀ a0 a1 k, LeO (impl_GreatestRing.f k a0 a1) (impl_GreatestRing.f (k + 1) a0 a1) := by
  intro a0 a1 k
  have ih0 := impl_GreatestRing.mono_l k
  unfold impl_GreatestRing.f
  repeat' first
      | (with_reducible exact ih0 _ _ _ _ _)
      | (with_reducible exact impl_Lock_ring.mono _ _ _)
      | (with_reducible exact impl_digits.mono _ _)
      | (with_reducible exact impl_isRounded.mono _ _ _)
      | (with_reducible exact impl_text.mono _ _)
      | (with_reducible exact LeO.refl _)
      | (with_reducible exact LeO.none _)
      | (with_reducible refine LeO.ite ?_ ?_)
      | (with_reducible refine LeO.bind ?_ (fun _ => ?_))
      | exact ih0 _ _ _ _ _
      | exact impl_Lock_ring.mono _ _ _
      | exact impl_digits.mono _ _
      | exact impl_isRounded.mono _ _ _
      | exact impl_text.mono _ _
      | exact LeO.none _
      | refine LeO.ite ?_ ?_
      | refine LeO.bind ?_ (fun _ => ?_)
def impl_GreatestRing.T7 : Bool × List (List Nat × List Nat) := (true, [([], []), ([], []), ([], []), ([2], [2]), ([3], [3]), ([], []), ([], []), ([5, 6], [5, 6]), ([7], [7]), ([4, 8], [4, 8]), ([0, 1, 0, 1, 2, 3, 4, 5, 6, 7, 8, 9], [0, 1]), ([10, 9, 0, 1, 2, 3, 4, 5, 6, 7, 8, 9], [9, 10])])
def impl_GreatestRing.B7 : List Nat := [0, 0, 0, 4, 12, 0, 0, 96, 224, 508, 1023, 2047]
theorem impl_GreatestRing.tab7 : rtab .any (opsOf Try.f16 7) = impl_GreatestRing.T7 := by kernel_rfl
theorem impl_GreatestRing.bits7 : waitsOk impl_GreatestRing.T7.2 impl_GreatestRing.B7 = true := by kernel_rfl
set_option maxHeartbeats 8000000 in
set_option maxRecDepth 100000 in
theorem impl_GreatestRing.calls (k : Nat) (a0_0 : Int) (a0_1 : Int) (r1 : ByteArray) (r2 : Bool) (w : World) (h : impl_GreatestRing.f k a0_0 a0_1 = some (r1, r2)) :
    Calls Try.prog 16 #[.agg #[.int .i64 a0_0, .int .i64 a0_1]] w fun e w' => e = .returned (.tuple #[.string r1, .bool r2]) ∧ Below w.heap.size w w' := by
  have hu26 := Try.underlying26
  have HB := Aside0.mk (Below.refl w.heap.size w)
  have H : ((impl_isRounded.f k a0_0 a0_1).bind fun t422 => (if t422 = true then ((impl_Lock_ring.f k a0_0 a0_1).bind fun t423 => ((impl_digits.f k t423).bind fun t424 => (impl_GreatestRing.l0 k t424 (t424.length : Int) 0 a0_0 a0_1))) else (some ((⟨#[]⟩ : ByteArray), false)))) = some (r1, r2) := h
  clear h
  replace H := Option.bind_eq_some_iff.mp H
  obtain ⟨t422, A20, H⟩ := H
  try dsimp only at H
  have A2 := Aside0.mk A20
  clear A20
  by_cases c3 : t422 = true
  rotate_left
  · replace c3 := Bool.eq_false_iff.mpr c3
    subst c3
    rw [if_neg (show ¬ (false = true) by decide)] at H
    simp only [Option.some.injEq, Prod.mk.injEq] at H
    obtain ⟨rfl, rfl⟩ := H
    go_enter Try.func16, Try.ntmps16
    go_wp2_with (first | ((with_reducible refine gate_dst (N := 1) rfl ?_); refine box_event ?hg (N := 1) ?hd (cs := #[.int .i64 a0_0, .int .i64 a0_1]) (t := 26) ?hr ?_; (case hd => rfl); (case hg => rfl); (case hr => first | (go_simp; done) | (go_simp; rfl)); intro gb421 hg w21 hbox hb; have n0_ := bsx hb HB; have n1_ := Aside0.mk (hbox); have n2_ := gwx hg HB; have n3_ := n2_; clear HB; have HB := n0_; have BK421 := n1_; have GW421 := n2_; have GE421 := n3_; clear n0_ n1_ n2_ n3_; clear hb hbox hg; have hcz22_0 := cz0 BK421; have hcz22_1 := cz1 BK421; have hfz22_0 := blk_frozen BK421.out 0; have hfz22_1 := blk_frozen BK421.out 1) | ((with_reducible refine gate_callee (f := 29) rfl ?_); refine goesL_ (some 7) rfl rfl Try.func29 (by kernel_rfl) rfl #[.agg #[.int .i64 a0_0, .int .i64 a0_1]] rfl (by (try simp only [m_1, m_2, m_3]); first | done | rfl | (simp only [m_4, m_5]; rfl)) ?_; (with_reducible refine (impl_isRounded.calls k a0_0 a0_1 false _ A2.out).mono ?_); rintro e w23 ⟨rfl, hb⟩; refine ⟨_, rfl, ?_⟩; replace BK421 := bbx hb BK421; replace HB := bsx hb HB; skip; (try clear hb); (try clear hb2); (try clear hk); (try clear hi)))
    go_ret2
    exact ⟨by first | rfl | (simp [errW_none, errW_some] <;> rfl) | (simp [*, errW_none, errW_some] <;> rfl), bB HB⟩

  subst c3
  rw [if_pos rfl] at H
  replace H := Option.bind_eq_some_iff.mp H
  obtain ⟨t423, A40, H⟩ := H
  try dsimp only at H
  have A4 := Aside0.mk A40
  clear A40
  replace H := Option.bind_eq_some_iff.mp H
  obtain ⟨t424, A50, H⟩ := H
  try dsimp only at H
  have A5 := Aside0.mk A50
  clear A50
  have H' := Aside0.mk H
  clear H
  go_enter Try.func16, Try.ntmps16
  go_wp2_with (first | ((with_reducible refine gate_dst (N := 1) rfl ?_); refine box_event ?hg (N := 1) ?hd (cs := #[.int .i64 a0_0, .int .i64 a0_1]) (t := 26) ?hr ?_; (case hd => rfl); (case hg => rfl); (case hr => first | (go_simp; done) | (go_simp; rfl)); intro gb421 hg w6 hbox hb; have n0_ := bsx hb HB; have n1_ := Aside0.mk (hbox); have n2_ := gwx hg HB; have n3_ := n2_; clear HB; have HB := n0_; have BK421 := n1_; have GW421 := n2_; have GE421 := n3_; clear n0_ n1_ n2_ n3_; clear hb hbox hg; have hcz7_0 := cz0 BK421; have hcz7_1 := cz1 BK421; have hfz7_0 := blk_frozen BK421.out 0; have hfz7_1 := blk_frozen BK421.out 1) | ((with_reducible refine gate_callee (f := 29) rfl ?_); refine goesL_ (some 7) rfl rfl Try.func29 (by kernel_rfl) rfl #[.agg #[.int .i64 a0_0, .int .i64 a0_1]] rfl (by (try simp only [m_1, m_2, m_3]); first | done | rfl | (simp only [m_4, m_5]; rfl)) ?_; (with_reducible refine (impl_isRounded.calls k a0_0 a0_1 true _ A2.out).mono ?_); rintro e w8 ⟨rfl, hb⟩; refine ⟨_, rfl, ?_⟩; replace BK421 := bbx hb BK421; replace HB := bsx hb HB; skip; (try clear hb); (try clear hb2); (try clear hk); (try clear hi); have hcz9_0 := cz0 BK421; have hcz9_1 := cz1 BK421; have hfz9_0 := blk_frozen BK421.out 0; have hfz9_1 := blk_frozen BK421.out 1) | ((with_reducible refine gate_callee (f := 31) rfl ?_); refine goesL_ (some 10) rfl rfl Try.func31 (by kernel_rfl) rfl #[.agg #[.int .i64 a0_0, .int .i64 a0_1]] rfl (by (try simp only [m_1, m_2, m_3]); first | done | rfl | (simp only [m_4, m_5]; rfl)) ?_; (with_reducible refine (impl_Lock_ring.calls k a0_0 a0_1 t423 _ A4.out).mono ?_); rintro e w10 ⟨rfl, hb⟩; refine ⟨_, rfl, ?_⟩; replace BK421 := bbx hb BK421; replace HB := bsx hb HB; skip; (try clear hb); (try clear hb2); (try clear hk); (try clear hi)) | ((with_reducible refine gate_callee (f := 36) rfl ?_); refine goesL_ (some 11) rfl rfl Try.func36 (by kernel_rfl) rfl #[.string t423] rfl (by (try simp only [m_1, m_2, m_3]); first | done | rfl | (simp only [m_4, m_5]; rfl)) ?_; (with_reducible refine (impl_digits.calls k t423 t424 _ A5.out).mono ?_); rintro e w11 ⟨v425, rfl, ho0, hb⟩; refine ⟨_, rfl, ?_⟩; have n0_ := Aside0.mk (Kd.R_lower ho0 (below_size (bB HB))); replace BK421 := bbx hb BK421; have n2_ := bsx hb HB; clear HB; have HO426 := n0_; have HB := n2_; clear n0_ n2_; (try clear hb); (try clear hb2); (try clear hk); (try clear hi); (try clear ho0); obtain ⟨Ao12, co12, eo12⟩ := Kd.R_slice HO426.out; subst eo12))
  go_loopg [14] k (fun kq v14 w' => ∃ (x4_1 : List Int) (x14_1 : Int), v14 = .int .i64 x14_1 ∧ Aside0 (impl_GreatestRing.l0 kq x4_1 (t424.length : Int) x14_1 a0_0 a0_1 = some (r1, r2)) ∧ Aside0 (kq ≤ k) ∧ Aside0 (Kd.R (Kd.int .i64) 3 w' w.heap.size (fun _ => True) (.slice Ao12 t424.length co12) x4_1) ∧ Aside0 (w'.heap[gb421]? = some (.cells #[.int .i64 a0_0, .int .i64 a0_1] 26 (0, 0))) ∧ Aside0 (Below w.heap.size w w'))
  case atStart => refine ⟨(t424), (0), (by first | rfl | (simp; done) | (simp [*]; done)), H', ⟨Nat.le_refl _⟩, ⟨?_⟩, ⟨?_⟩, ⟨bB HB⟩⟩ <;> (with_reducible repeat (first | refine g_d ?_ _ | refine g_e ?_ | refine g_a ?_ _ | apply r_a | apply r_d | apply r_e)) <;> first | exact BK421.out | exact HO426.out
  clear H'
  try clear c3
  try clear hcz7_0
  try clear hcz7_1
  try clear hcz9_0
  try clear hcz9_1
  try clear hfz7_0
  try clear hfz7_1
  try clear hfz9_0
  try clear hfz9_1
  obtain ⟨x4_1, x14_1, rfl, HA, HK1, HO_4, BK421, HB⟩ := hrel
  have hl4_1 := (Kd.R_reads' HO_4.out).1
  rw [hl4_1] at HO_4
  (try simp only [hl4_1])
  (try simp only [hl4_1] at BK421)
  rcases gk with _ | k1
  · exact absurd HA.out (by simp [impl_GreatestRing.l0])
  have H := HA.out
  clear HA
  simp only [impl_GreatestRing.l0] at H
  by_cases c13 : x14_1 < (t424.length : Int)
  rotate_left
  · rw [if_neg c13] at H
    have c13b0 : decide (x14_1 < (t424.length : Int)) = false := decide_eq_false c13
    (try simp only [hl4_1] at c13b0)
    clear c13
    replace H := Option.bind_eq_some_iff.mp H
    obtain ⟨t429, A190, H⟩ := H
    try dsimp only at H
    have A19 := Aside0.mk A190
    clear A190
    simp only [Option.some.injEq, Prod.mk.injEq] at H
    obtain ⟨rfl, rfl⟩ := H
    go_wp2_with (first | ((with_reducible refine gate_callee (f := 37) rfl ?_); refine goesL_ (some 30) rfl rfl Try.func37 (by kernel_rfl) rfl #[.slice Ao12 x4_1.length co12] rfl (by (try simp only [m_1, m_2, m_3]); first | done | rfl | (simp only [m_4, m_5]; rfl)) ?_; (with_reducible refine (impl_text.calls k1 _ _ x4_1 t429 _ ?side1 ?side2 A19.out).mono ?_); (case side1 => repeat (first | exact (Kd.R_reads' HO_4.out).2.2 | (with_reducible refine Kd.C_alloc ?_ _) | (with_reducible refine Kd.C_drewN ?_ _) | (with_reducible refine Kd.C_drew ?_))); (case side2 => exact (Kd.R_reads' HO_4.out).2.1); rintro e w20 ⟨rfl, hb⟩; refine ⟨_, rfl, ?_⟩; have n0_ := Aside0.mk (Kd.R_below (by (with_reducible repeat (first | apply r_a | apply r_d | apply r_e)); exact HO_4.out) hb); replace BK421 := bbx hb BK421; replace HB := bsx hb HB; clear HO_4; have HO_4 := n0_; clear n0_; (try clear hb); (try clear hb2); (try clear hk); (try clear hi)))
    go_ret2
    exact ⟨by first | rfl | (simp [errW_none, errW_some] <;> rfl) | (simp [*, errW_none, errW_some] <;> rfl), bB HB⟩
  rw [if_pos c13] at H
  have c13b0 : decide (x14_1 < (t424.length : Int)) = true := decide_eq_true c13
  clear c13
  by_cases c14 : 0 ≤ x14_1
  rotate_left
  · rw [if_neg c14] at H
    exact absurd H (by simp)
  rw [if_pos c14] at H
  have c14b0 : decide (0 ≤ x14_1) = true := decide_eq_true c14
  clear c14
  by_cases c15 : x14_1 < (x4_1.length : Int)
  rotate_left
  · rw [if_neg c15] at H
    exact absurd H (by simp)
  rw [if_pos c15] at H
  have c15b0 : decide (x14_1 < (x4_1.length : Int)) = true := decide_eq_true c15
  clear c15
  obtain ⟨y428, hy428⟩ : ∃ y_ : List Int, y_ = (x4_1.set (x14_1 : Int).toNat (wrap64 ((wrap64 (a0_1 - 1)) - (rd x4_1 x14_1)))) := ⟨_, rfl⟩
  replace H : (impl_GreatestRing.l0 k1 y428 (t424.length : Int) (wrap64 (x14_1 + 1)) a0_0 a0_1) = some (r1, r2) := by first | (rw [hy428]; with_reducible exact H) | (have H2_ := (Option.bind_some _ _).symm.trans H; rw [hy428]; with_reducible exact H2_) | (have H2_ := (Option.bind_some _ _).symm.trans H; with_reducible exact H2_) | with_reducible exact H | (rw [hy428]; exact H) | exact H
  have Ny428 := Aside0.mk hy428
  clear hy428
  have H' := Aside0.mk H
  clear H
  try go_wp2
  have n0_ := Aside0.mk (r_e HO_4.out)
  have n1_ := Aside0.mk (g_e BK421.out)
  have n2_ := Aside0.mk (b_e HB.out)
  clear HO_4
  clear BK421
  clear HB
  have HO_4 := n0_
  have BK421 := n1_
  have HB := n2_
  clear n0_ n1_ n2_
  have p427 : 0 ≤ (x14_1 : Int) := of_decide_eq_true (by first | (with_reducible assumption) | assumption)
  have q427 : x14_1 < (x4_1.length : Int) := of_decide_eq_true (by first | (with_reducible assumption) | assumption)
  obtain ⟨ad427, e427, hx427_0⟩ := Kd.at_int (Kd.R_reads' HO_4.out).2.2 x14_1 p427 q427
  cases e427
  replace p427 := eq_true p427
  replace q427 := eq_true q427
  have p16 : 0 ≤ (x14_1 : Int) := of_decide_eq_true (by first | (with_reducible assumption) | assumption)
  have q16 : (x14_1 : Int) < ((x4_1.length : Int) : Int) := of_decide_eq_true (by first | (with_reducible assumption) | assumption)
  obtain ⟨go16, co16, eo16, gb16, gl16, cl16, HG16⟩ := Kd.R_form HO_4.out (by omega)
  (first | cases eo16 | (injection eo16 with ea_ en_ ec_; (first | subst ea_ | (injection ea_ with ea_; subst ea_)); subst ec_; clear en_))
  have GB16 := Aside0.mk gb16
  have GG16 := Aside0.mk HG16
  clear gb16 gl16 HG16
  (first | simp only [add_plain] at hx427_0 | skip)
  obtain ⟨hx16_0, hf16_0⟩ := Kd.R_celln 0 HO_4.out (x14_1 : Int) p16 q16
  replace p16 := eq_true p16
  replace q16 := eq_true q16
  have HP18 := Kd.R_putn HO_4.out (x14_1 : Int) (wrap64 ((wrap64 (a0_1 - 1)) - (rd x4_1 x14_1)))
  rw [← Ny428.out] at HP18
  have HQ18 := Aside0.mk HP18
  clear HP18
  refine start_ (n := 12) (S := fun w' => w'.cell? ⟨gb421, 0, none⟩ = some (.int .i64 a0_0) ∧ w'.cell? ⟨gb421, 1, none⟩ = some (.int .i64 a0_1) ∧ w'.cell? ⟨go16, (x14_1).toNat, none⟩ = some (.int .i64 (rd x4_1 x14_1))) (ds := [11]) (bs_ 12 0) (by kernel_rfl) rfl rfl ⟨(blk_cell BK421.out 0).trans rfl, (blk_cell BK421.out 1).trans rfl, hx427_0⟩ (fun hHeld => ?_); refine with_tabW impl_GreatestRing.tab7 impl_GreatestRing.bits7 (fun HT_ HW_ => ?_)
  generalize wr.drew = w17 at HO_4 BK421 HB GG16 HQ18 hf16_0 hx16_0 hx427_0 hHeld ⊢
  refine pua 0 17 (bs_ 12 1) HT_ ?_
  refine pua 1 18 (bs_ 12 3) HT_ ?_
  refine pua 2 19 (bs_ 12 7) HT_ ?_
  refine pua 5 22 (bs_ 12 39) HT_ ?_
  refine pua 6 23 (bs_ 12 103) HT_ ?_
  refine pua 7 24 (bs_ 12 231) HT_ ?_
  refine tk_ 3 20 (bs_ 12 239) rfl rfl HT_ HW_ (by kernel_rfl) (fun _ _ _ h => h) (by rfl) hHeld (by rintro w' ⟨s0, s1, s2⟩; go_simp; with_reducible rfl) (by simp only [Act.put, s_1, s_2, s_3, i64_w, i32_w]; rfl) ?_
  refine pua 4 21 (bs_ 12 255) HT_ ?_
  refine tk_ 8 25 (bs_ 12 511) rfl rfl HT_ HW_ (by kernel_rfl) (fun _ _ _ h => h) (by rfl) hHeld (by rintro w' ⟨s0, s1, s2⟩; go_simp; with_reducible rfl) (by simp only [Act.put, s_1, s_2, s_3, i64_w, i32_w]; rfl) ?_
  refine pua 9 26 (bs_ 12 1023) HT_ ?_
  refine pua 10 27 (bs_ 12 2047) HT_ ?_
  refine last_ (i := 11) (N := none) (bs_ 12 4095) rfl rfl (one_of HT_.out (by kernel_rfl)) (by decide) (fun K hK => ?_)
  refine skip_ (w1 := ?_) (by rfl) rfl ?_ ?_
  rotate_left
  · go_simp
    rfl
  refine hK.out _ _ ?_
  clear hK K
  refine done_ (done_of HT_.out (by kernel_rfl)) ?_
  try go_wp2
  (try simp only [← hl4_1])
  go_roundg k1
  case measure => have := HK1.out; omega
  case rel => exact ⟨(y428), (wrap64 (x14_1 + 1)), (by first | rfl | (simp; done) | (simp [*]; done)), H', ⟨by have := HK1.out; omega⟩, ⟨by (try simp only [hl4_1]); (with_reducible repeat (first | apply r_a | apply r_d | apply r_e)); exact HQ18.out⟩, ⟨by (try simp only [hl4_1]); (with_reducible repeat (first | refine g_d ?_ _ | refine g_e ?_ | refine g_a ?_ _)); refine blk_far ?_ (by have h_ := Kd.R_ne HO_4.out BK421.out (by decide); intro e_; exact h_ (by rw [e_]; rfl)) _; (with_reducible repeat (first | refine g_d ?_ _ | refine g_e ?_ | refine g_a ?_ _)); exact BK421.out⟩, ⟨by repeat (first | (with_reducible first | exact HB.out | apply b_a | apply b_d | apply b_e | refine b_s ?_ GB16.out | refine b_s ?_ GE421.out) | exact HB.out)⟩⟩
/-! ### impl_CountCodes: function 17 -/
def impl_CountCodes.f (k : Nat) (a0_0 : Int) (a0_1 : Int) : Option (Int × Bool) := (impl_IsLock.f a0_0 a0_1).bind fun t431 => (if t431 = true then ((impl_Lock_count.f k a0_0 a0_1).bind fun t432 => (some (t432, true))) else (some (0, false)))
theorem impl_CountCodes.mono : ∀ a0 a1 k, LeO (impl_CountCodes.f k a0 a1) (impl_CountCodes.f (k + 1) a0 a1) := by
  intro a0 a1 k
  unfold impl_CountCodes.f
  repeat' first
      | (with_reducible exact impl_Lock_count.mono _ _ _)
      | (with_reducible exact LeO.refl _)
      | (with_reducible exact LeO.none _)
      | (with_reducible refine LeO.ite ?_ ?_)
      | (with_reducible refine LeO.bind ?_ (fun _ => ?_))
      | exact impl_Lock_count.mono _ _ _
      | exact LeO.none _
      | refine LeO.ite ?_ ?_
      | refine LeO.bind ?_ (fun _ => ?_)
set_option maxHeartbeats 8000000 in
set_option maxRecDepth 100000 in
theorem impl_CountCodes.calls (k : Nat) (a0_0 : Int) (a0_1 : Int) (r1 : Int) (r2 : Bool) (w : World) (h : impl_CountCodes.f k a0_0 a0_1 = some (r1, r2)) :
    Calls Try.prog 17 #[.agg #[.int .i64 a0_0, .int .i64 a0_1]] w fun e w' => e = .returned (.tuple #[.int .i64 r1, .bool r2]) ∧ Below w.heap.size w w' := by
  have hu26 := Try.underlying26
  have HB := Aside0.mk (Below.refl w.heap.size w)
  have H : ((impl_IsLock.f a0_0 a0_1).bind fun t431 => (if t431 = true then ((impl_Lock_count.f k a0_0 a0_1).bind fun t432 => (some (t432, true))) else (some (0, false)))) = some (r1, r2) := h
  clear h
  replace H := Option.bind_eq_some_iff.mp H
  obtain ⟨t431, A20, H⟩ := H
  try dsimp only at H
  have A2 := Aside0.mk A20
  clear A20
  by_cases c3 : t431 = true
  rotate_left
  · replace c3 := Bool.eq_false_iff.mpr c3
    subst c3
    rw [if_neg (show ¬ (false = true) by decide)] at H
    simp only [Option.some.injEq, Prod.mk.injEq] at H
    obtain ⟨rfl, rfl⟩ := H
    go_enter Try.func17, Try.ntmps17
    go_wp2_with (first | ((with_reducible refine gate_dst (N := 1) rfl ?_); refine box_event ?hg (N := 1) ?hd (cs := #[.int .i64 a0_0, .int .i64 a0_1]) (t := 26) ?hr ?_; (case hd => rfl); (case hg => rfl); (case hr => first | (go_simp; done) | (go_simp; rfl)); intro gb430 hg w10 hbox hb; have n0_ := bsx hb HB; have n1_ := Aside0.mk (hbox); have n2_ := gwx hg HB; have n3_ := n2_; clear HB; have HB := n0_; have BK430 := n1_; have GW430 := n2_; have GE430 := n3_; clear n0_ n1_ n2_ n3_; clear hb hbox hg; have hcz11_0 := cz0 BK430; have hcz11_1 := cz1 BK430; have hfz11_0 := blk_frozen BK430.out 0; have hfz11_1 := blk_frozen BK430.out 1) | ((with_reducible refine gate_callee (f := 38) rfl ?_); refine goesL_ (some 5) rfl rfl Try.func38 (by kernel_rfl) rfl #[.agg #[.int .i64 a0_0, .int .i64 a0_1]] rfl (by (try simp only [m_1, m_2, m_3]); first | done | rfl | (simp only [m_4, m_5]; rfl)) ?_; (with_reducible refine (impl_IsLock.calls a0_0 a0_1 false _ A2.out).mono ?_); rintro e w12 ⟨rfl, hb⟩; refine ⟨_, rfl, ?_⟩; replace BK430 := bbx hb BK430; replace HB := bsx hb HB; skip; (try clear hb); (try clear hb2); (try clear hk); (try clear hi)))
    go_ret2
    exact ⟨by first | rfl | (simp [errW_none, errW_some] <;> rfl) | (simp [*, errW_none, errW_some] <;> rfl), bB HB⟩

  subst c3
  rw [if_pos rfl] at H
  replace H := Option.bind_eq_some_iff.mp H
  obtain ⟨t432, A40, H⟩ := H
  try dsimp only at H
  have A4 := Aside0.mk A40
  clear A40
  simp only [Option.some.injEq, Prod.mk.injEq] at H
  obtain ⟨rfl, rfl⟩ := H
  go_enter Try.func17, Try.ntmps17
  go_wp2_with (first | ((with_reducible refine gate_dst (N := 1) rfl ?_); refine box_event ?hg (N := 1) ?hd (cs := #[.int .i64 a0_0, .int .i64 a0_1]) (t := 26) ?hr ?_; (case hd => rfl); (case hg => rfl); (case hr => first | (go_simp; done) | (go_simp; rfl)); intro gb430 hg w5 hbox hb; have n0_ := bsx hb HB; have n1_ := Aside0.mk (hbox); have n2_ := gwx hg HB; have n3_ := n2_; clear HB; have HB := n0_; have BK430 := n1_; have GW430 := n2_; have GE430 := n3_; clear n0_ n1_ n2_ n3_; clear hb hbox hg; have hcz6_0 := cz0 BK430; have hcz6_1 := cz1 BK430; have hfz6_0 := blk_frozen BK430.out 0; have hfz6_1 := blk_frozen BK430.out 1) | ((with_reducible refine gate_callee (f := 38) rfl ?_); refine goesL_ (some 5) rfl rfl Try.func38 (by kernel_rfl) rfl #[.agg #[.int .i64 a0_0, .int .i64 a0_1]] rfl (by (try simp only [m_1, m_2, m_3]); first | done | rfl | (simp only [m_4, m_5]; rfl)) ?_; (with_reducible refine (impl_IsLock.calls a0_0 a0_1 true _ A2.out).mono ?_); rintro e w7 ⟨rfl, hb⟩; refine ⟨_, rfl, ?_⟩; replace BK430 := bbx hb BK430; replace HB := bsx hb HB; skip; (try clear hb); (try clear hb2); (try clear hk); (try clear hi); have hcz8_0 := cz0 BK430; have hcz8_1 := cz1 BK430; have hfz8_0 := blk_frozen BK430.out 0; have hfz8_1 := blk_frozen BK430.out 1) | ((with_reducible refine gate_callee (f := 39) rfl ?_); refine goesL_ (some 8) rfl rfl Try.func39 (by kernel_rfl) rfl #[.agg #[.int .i64 a0_0, .int .i64 a0_1]] rfl (by (try simp only [m_1, m_2, m_3]); first | done | rfl | (simp only [m_4, m_5]; rfl)) ?_; (with_reducible refine (impl_Lock_count.calls k a0_0 a0_1 t432 _ A4.out).mono ?_); rintro e w9 ⟨rfl, hb⟩; refine ⟨_, rfl, ?_⟩; replace BK430 := bbx hb BK430; replace HB := bsx hb HB; skip; (try clear hb); (try clear hb2); (try clear hk); (try clear hi)))
  go_ret2
  exact ⟨by first | rfl | (simp [errW_none, errW_some] <;> rfl) | (simp [*, errW_none, errW_some] <;> rfl), bB HB⟩
/-! ### impl_times: function 41 -/
def impl_times.f (a0 : Int) (a1 : Int) : Option (Int) := if a0 < 0 then (some (-1)) else (if a1 < 0 then (some (-1)) else (if a1 > 0 then (if a1 = 0 then (none) else (if a0 > (wrap64 (Int.tdiv (1000000000000000 : Int) a1)) then (some (-1)) else (some (wrap64 (a0 * a1))))) else (some (wrap64 (a0 * a1)))))
set_option maxHeartbeats 8000000 in
set_option maxRecDepth 100000 in
theorem impl_times.calls (a0 : Int) (a1 : Int) (r : Int) (w : World) (h : impl_times.f a0 a1 = some r) :
    Calls Try.prog 41 #[.int .i64 a0, .int .i64 a1] w fun e w' => e = .returned (.int .i64 r) ∧ Drawn0 w w' := by
  have H : (if a0 < 0 then (some (-1)) else (if a1 < 0 then (some (-1)) else (if a1 > 0 then (if a1 = 0 then (none) else (if a0 > (wrap64 (Int.tdiv (1000000000000000 : Int) a1)) then (some (-1)) else (some (wrap64 (a0 * a1))))) else (some (wrap64 (a0 * a1)))))) = some r := h
  clear h
  by_cases c3 : a0 < 0
  · rw [if_pos c3] at H
    have c3b0 : decide (a0 < 0) = true := decide_eq_true c3
    clear c3
    obtain rfl := Option.some.inj H
    go_enter Try.func41, Try.ntmps41
    go_wp2
    go_ret
    exact ⟨by first | rfl | (simp; done) | (simp [*]; done), by repeat (first | exact Drawn0.refl _ | apply Drawn0.step)⟩
  rw [if_neg c3] at H
  have c3b0 : decide (a0 < 0) = false := decide_eq_false c3
  clear c3
  by_cases c4 : a1 < 0
  · rw [if_pos c4] at H
    have c4b0 : decide (a1 < 0) = true := decide_eq_true c4
    clear c4
    obtain rfl := Option.some.inj H
    go_enter Try.func41, Try.ntmps41
    go_wp2
    go_ret
    exact ⟨by first | rfl | (simp; done) | (simp [*]; done), by repeat (first | exact Drawn0.refl _ | apply Drawn0.step)⟩
  rw [if_neg c4] at H
  have c4b0 : decide (a1 < 0) = false := decide_eq_false c4
  clear c4
  by_cases c5 : a1 > 0
  rotate_left
  · rw [if_neg c5] at H
    have c5b0 : decide (0 < a1) = false := decide_eq_false c5
    clear c5
    obtain rfl := Option.some.inj H
    go_enter Try.func41, Try.ntmps41
    go_wp2
    go_ret
    exact ⟨by first | rfl | (simp; done) | (simp [*]; done), by repeat (first | exact Drawn0.refl _ | apply Drawn0.step)⟩

  rw [if_pos c5] at H
  have c5b0 : decide (0 < a1) = true := decide_eq_true c5
  clear c5
  by_cases c6 : a1 = 0
  · rw [if_pos c6] at H
    exact absurd H (by simp)
  rw [if_neg c6] at H
  have c6b0 : (a1 == 0) = false := beq_eq_false_iff_ne.mpr c6
  have c6b1 : (a1 != 0) = true := bne_iff_ne.mpr c6
  by_cases c7 : a0 > (wrap64 (Int.tdiv (1000000000000000 : Int) a1))
  rotate_left
  · rw [if_neg c7] at H
    have c7b0 : decide ((wrap64 (Int.tdiv (1000000000000000 : Int) a1)) < a0) = false := decide_eq_false c7
    clear c7
    obtain rfl := Option.some.inj H
    go_enter Try.func41, Try.ntmps41
    go_wp2
    go_ret
    exact ⟨by first | rfl | (simp; done) | (simp [*]; done), by repeat (first | exact Drawn0.refl _ | apply Drawn0.step)⟩
  rw [if_pos c7] at H
  have c7b0 : decide ((wrap64 (Int.tdiv (1000000000000000 : Int) a1)) < a0) = true := decide_eq_true c7
  clear c7
  obtain rfl := Option.some.inj H
  go_enter Try.func41, Try.ntmps41
  go_wp2
  go_ret
  exact ⟨by first | rfl | (simp; done) | (simp [*]; done), by repeat (first | exact Drawn0.refl _ | apply Drawn0.step)⟩
/-! ### impl_found: function 42 -/
def impl_found.f (a0 : Int) : Option (Int × Bool) := some (mx a0 0, decide (a0 ≥ 0))
set_option maxHeartbeats 8000000 in
set_option maxRecDepth 100000 in
theorem impl_found.calls (a0 : Int) (r1 : Int) (r2 : Bool) (w : World) (h : impl_found.f a0 = some (r1, r2)) :
    Calls Try.prog 42 #[.int .i64 a0] w fun e w' => e = .returned (.tuple #[.int .i64 r1, .bool r2]) ∧ Below w.heap.size w w' := by
  have HB := Aside0.mk (Below.refl w.heap.size w)
  have H : (some (mx a0 0, decide (a0 ≥ 0))) = some (r1, r2) := h
  clear h
  obtain ⟨ji2, hji2⟩ : ∃ j_ : Int, (mx a0 0) = j_ := ⟨_, rfl⟩
  replace H : (some (ji2, decide (a0 ≥ 0))) = some (r1, r2) := by first | (rw [hji2] at H; exact H) | (simp only [hji2] at H ⊢; exact H)
  (try (have hji2l : 0 ≤ ji2 := by (rw [← hji2]; unfold mx; (repeat' split) <;> omega)))
  (try (have hji2m : 0 ≤ ji2 := by omega))
  have hji2_ : (if a0 < 0 then 0 else a0) = ji2 := hji2
  simp only [Option.some.injEq, Prod.mk.injEq] at H
  obtain ⟨rfl, rfl⟩ := H
  go_enter Try.func42, Try.ntmps42
  go_wp2
  go_ret2
  exact ⟨by first | rfl | (simp [errW_none, errW_some] <;> rfl) | (simp only [← hji2]; first | rfl | (simp [errW_none, errW_some] <;> rfl)) | (simp [*, errW_none, errW_some] <;> rfl), bB HB⟩

/-! ### impl_CountRings: function 18 -/
mutual
def impl_CountRings.l0 : Nat → Int → Int → Int → Int → Int → Int → Option (Int × Bool)
  | 0, _, _, _, _, _, _ => none
  | k + 1, x4, x5, x6, x7, x434000, x434001 => if x7 < x434001 then (impl_CountRings.l0 k x4 (wrap64 (x5 * x7)) x6 (wrap64 (x7 + 1)) x434000 x434001) else (impl_CountRings.l1 k x4 x5 x6 x4 0 x434000 x434001)
def impl_CountRings.l1 : Nat → Int → Int → Int → Int → Int → Int → Int → Option (Int × Bool)
  | 0, _, _, _, _, _, _, _ => none
  | k + 1, x4, x5, x6, x26, x27, x434000, x434001 => if x27 < x26 then ((impl_times.f x6 x5).bind fun t436 => (impl_CountRings.l1 k x4 x5 t436 x26 (wrap64 (x27 + 1)) x434000 x434001)) else (impl_CountRings.l2 k x6 (wrap64 (x4 - x434000)) 0 x434000 x434001)
def impl_CountRings.l2 : Nat → Int → Int → Int → Int → Int → Option (Int × Bool)
  | 0, _, _, _, _, _ => none
  | k + 1, x6, x36, x37, x434000, x434001 => if x37 < x36 then ((impl_times.f x6 x434001).bind fun t437 => (impl_CountRings.l2 k t437 x36 (wrap64 (x37 + 1)) x434000 x434001)) else ((impl_found.f x6).bind fun bt438 => (some (bt438.1, bt438.2)))
end
def impl_CountRings.f (k : Nat) (a0_0 : Int) (a0_1 : Int) : Option (Int × Bool) := (impl_isRounded.f k a0_0 a0_1).bind fun t434 => (if t434 = true then ((impl_power.f k a0_1 (wrap64 (a0_0 - 1))).bind fun t435 => (impl_CountRings.l0 k t435 1 1 2 a0_0 a0_1)) else (some (0, false)))
theorem impl_CountRings.mono_l : ∀ k, (∀ y0 y1 y2 y3 y4 y5, LeO (impl_CountRings.l0 k y0 y1 y2 y3 y4 y5) (impl_CountRings.l0 (k + 1) y0 y1 y2 y3 y4 y5)) ∧ (∀ y0 y1 y2 y3 y4 y5 y6, LeO (impl_CountRings.l1 k y0 y1 y2 y3 y4 y5 y6) (impl_CountRings.l1 (k + 1) y0 y1 y2 y3 y4 y5 y6)) ∧ (∀ y0 y1 y2 y3 y4, LeO (impl_CountRings.l2 k y0 y1 y2 y3 y4) (impl_CountRings.l2 (k + 1) y0 y1 y2 y3 y4))
  | 0 => ⟨fun _ _ _ _ _ _ r h => by simp [impl_CountRings.l0] at h, fun _ _ _ _ _ _ _ r h => by simp [impl_CountRings.l1] at h, fun _ _ _ _ _ r h => by simp [impl_CountRings.l2] at h⟩
  | k + 1 => by
    obtain ⟨ih0, ih1, ih2⟩ := impl_CountRings.mono_l k
    refine ⟨?_, ?_, ?_⟩
    · intro y0 y1 y2 y3 y4 y5
      unfold impl_CountRings.l0
      repeat' first
      | (with_reducible exact ih0 _ _ _ _ _ _)
      | (with_reducible exact ih1 _ _ _ _ _ _ _)
      | (with_reducible exact ih2 _ _ _ _ _)
      | (with_reducible exact impl_isRounded.mono _ _ _)
      | (with_reducible exact impl_power.mono _ _ _)
      | (with_reducible exact LeO.refl _)
      | (with_reducible exact LeO.none _)
      | (with_reducible refine LeO.ite ?_ ?_)
      | (with_reducible refine LeO.bind ?_ (fun _ => ?_))
      | exact ih0 _ _ _ _ _ _
      | exact ih1 _ _ _ _ _ _ _
      | exact ih2 _ _ _ _ _
      | exact impl_isRounded.mono _ _ _
      | exact impl_power.mono _ _ _
      | exact LeO.none _
      | refine LeO.ite ?_ ?_
      | refine LeO.bind ?_ (fun _ => ?_)
    · intro y0 y1 y2 y3 y4 y5 y6
      unfold impl_CountRings.l1
      repeat' first
      | (with_reducible exact ih0 _ _ _ _ _ _)
      | (with_reducible exact ih1 _ _ _ _ _ _ _)
      | (with_reducible exact ih2 _ _ _ _ _)
      | (with_reducible exact impl_isRounded.mono _ _ _)
      | (with_reducible exact impl_power.mono _ _ _)
      | (with_reducible exact LeO.refl _)
      | (with_reducible exact LeO.none _)
      | (with_reducible refine LeO.ite ?_ ?_)
      | (with_reducible refine LeO.bind ?_ (fun _ => ?_))
      | exact ih0 _ _ _ _ _ _
      | exact ih1 _ _ _ _ _ _ _
      | exact ih2 _ _ _ _ _
      | exact impl_isRounded.mono _ _ _
      | exact impl_power.mono _ _ _
      | exact LeO.none _
      | refine LeO.ite ?_ ?_
      | refine LeO.bind ?_ (fun _ => ?_)
    · intro y0 y1 y2 y3 y4
      unfold impl_CountRings.l2
      repeat' first
      | (with_reducible exact ih0 _ _ _ _ _ _)
      | (with_reducible exact ih1 _ _ _ _ _ _ _)
      | (with_reducible exact ih2 _ _ _ _ _)
      | (with_reducible exact impl_isRounded.mono _ _ _)
      | (with_reducible exact impl_power.mono _ _ _)
      | (with_reducible exact LeO.refl _)
      | (with_reducible exact LeO.none _)
      | (with_reducible refine LeO.ite ?_ ?_)
      | (with_reducible refine LeO.bind ?_ (fun _ => ?_))
      | exact ih0 _ _ _ _ _ _
      | exact ih1 _ _ _ _ _ _ _
      | exact ih2 _ _ _ _ _
      | exact impl_isRounded.mono _ _ _
      | exact impl_power.mono _ _ _
      | exact LeO.none _
      | refine LeO.ite ?_ ?_
      | refine LeO.bind ?_ (fun _ => ?_)
theorem impl_CountRings.mono : ∀ a0 a1 k, LeO (impl_CountRings.f k a0 a1) (impl_CountRings.f (k + 1) a0 a1) := by
  intro a0 a1 k
  obtain ⟨ih0, ih1, ih2⟩ := impl_CountRings.mono_l k
  unfold impl_CountRings.f
  repeat' first
      | (with_reducible exact ih0 _ _ _ _ _ _)
      | (with_reducible exact ih1 _ _ _ _ _ _ _)
      | (with_reducible exact ih2 _ _ _ _ _)
      | (with_reducible exact impl_isRounded.mono _ _ _)
      | (with_reducible exact impl_power.mono _ _ _)
      | (with_reducible exact LeO.refl _)
      | (with_reducible exact LeO.none _)
      | (with_reducible refine LeO.ite ?_ ?_)
      | (with_reducible refine LeO.bind ?_ (fun _ => ?_))
      | exact ih0 _ _ _ _ _ _
      | exact ih1 _ _ _ _ _ _ _
      | exact ih2 _ _ _ _ _
      | exact impl_isRounded.mono _ _ _
      | exact impl_power.mono _ _ _
      | exact LeO.none _
      | refine LeO.ite ?_ ?_
      | refine LeO.bind ?_ (fun _ => ?_)
set_option maxHeartbeats 8000000 in
set_option maxRecDepth 100000 in
theorem impl_CountRings.calls (k : Nat) (a0_0 : Int) (a0_1 : Int) (r1 : Int) (r2 : Bool) (w : World) (h : impl_CountRings.f k a0_0 a0_1 = some (r1, r2)) :
    Calls Try.prog 18 #[.agg #[.int .i64 a0_0, .int .i64 a0_1]] w fun e w' => e = .returned (.tuple #[.int .i64 r1, .bool r2]) ∧ Below w.heap.size w w' := by
  have hu26 := Try.underlying26
  have HB := Aside0.mk (Below.refl w.heap.size w)
  have H : ((impl_isRounded.f k a0_0 a0_1).bind fun t434 => (if t434 = true then ((impl_power.f k a0_1 (wrap64 (a0_0 - 1))).bind fun t435 => (impl_CountRings.l0 k t435 1 1 2 a0_0 a0_1)) else (some (0, false)))) = some (r1, r2) := h
  clear h
  replace H := Option.bind_eq_some_iff.mp H
  obtain ⟨t434, A20, H⟩ := H
  try dsimp only at H
  have A2 := Aside0.mk A20
  clear A20
  by_cases c3 : t434 = true
  rotate_left
  · replace c3 := Bool.eq_false_iff.mpr c3
    subst c3
    rw [if_neg (show ¬ (false = true) by decide)] at H
    simp only [Option.some.injEq, Prod.mk.injEq] at H
    obtain ⟨rfl, rfl⟩ := H
    go_enter Try.func18, Try.ntmps18
    go_wp2_with (first | ((with_reducible refine gate_dst (N := 1) rfl ?_); refine box_event ?hg (N := 1) ?hd (cs := #[.int .i64 a0_0, .int .i64 a0_1]) (t := 26) ?hr ?_; (case hd => rfl); (case hg => rfl); (case hr => first | (go_simp; done) | (go_simp; rfl)); intro gb433 hg w20 hbox hb; have n0_ := bsx hb HB; have n1_ := Aside0.mk (hbox); have n2_ := gwx hg HB; have n3_ := n2_; clear HB; have HB := n0_; have BK433 := n1_; have GW433 := n2_; have GE433 := n3_; clear n0_ n1_ n2_ n3_; clear hb hbox hg; have hcz21_0 := cz0 BK433; have hcz21_1 := cz1 BK433; have hfz21_0 := blk_frozen BK433.out 0; have hfz21_1 := blk_frozen BK433.out 1) | ((with_reducible refine gate_callee (f := 29) rfl ?_); refine goesL_ (some 9) rfl rfl Try.func29 (by kernel_rfl) rfl #[.agg #[.int .i64 a0_0, .int .i64 a0_1]] rfl (by (try simp only [m_1, m_2, m_3]); first | done | rfl | (simp only [m_4, m_5]; rfl)) ?_; (with_reducible refine (impl_isRounded.calls k a0_0 a0_1 false _ A2.out).mono ?_); rintro e w22 ⟨rfl, hb⟩; refine ⟨_, rfl, ?_⟩; replace BK433 := bbx hb BK433; replace HB := bsx hb HB; skip; (try clear hb); (try clear hb2); (try clear hk); (try clear hi)))
    go_ret2
    exact ⟨by first | rfl | (simp [errW_none, errW_some] <;> rfl) | (simp [*, errW_none, errW_some] <;> rfl), bB HB⟩

  subst c3
  rw [if_pos rfl] at H
  replace H := Option.bind_eq_some_iff.mp H
  obtain ⟨t435, A40, H⟩ := H
  try dsimp only at H
  have A4 := Aside0.mk A40
  clear A40
  have H' := Aside0.mk H
  clear H
  go_enter Try.func18, Try.ntmps18
  go_wp2_with (first | ((with_reducible refine gate_dst (N := 1) rfl ?_); refine box_event ?hg (N := 1) ?hd (cs := #[.int .i64 a0_0, .int .i64 a0_1]) (t := 26) ?hr ?_; (case hd => rfl); (case hg => rfl); (case hr => first | (go_simp; done) | (go_simp; rfl)); intro gb433 hg w5 hbox hb; have n0_ := bsx hb HB; have n1_ := Aside0.mk (hbox); have n2_ := gwx hg HB; have n3_ := n2_; clear HB; have HB := n0_; have BK433 := n1_; have GW433 := n2_; have GE433 := n3_; clear n0_ n1_ n2_ n3_; clear hb hbox hg; have hcz6_0 := cz0 BK433; have hcz6_1 := cz1 BK433; have hfz6_0 := blk_frozen BK433.out 0; have hfz6_1 := blk_frozen BK433.out 1) | ((with_reducible refine gate_callee (f := 29) rfl ?_); refine goesL_ (some 9) rfl rfl Try.func29 (by kernel_rfl) rfl #[.agg #[.int .i64 a0_0, .int .i64 a0_1]] rfl (by (try simp only [m_1, m_2, m_3]); first | done | rfl | (simp only [m_4, m_5]; rfl)) ?_; (with_reducible refine (impl_isRounded.calls k a0_0 a0_1 true _ A2.out).mono ?_); rintro e w7 ⟨rfl, hb⟩; refine ⟨_, rfl, ?_⟩; replace BK433 := bbx hb BK433; replace HB := bsx hb HB; skip; (try clear hb); (try clear hb2); (try clear hk); (try clear hi); have hcz8_0 := cz0 BK433; have hcz8_1 := cz1 BK433; have hfz8_0 := blk_frozen BK433.out 0; have hfz8_1 := blk_frozen BK433.out 1) | ((with_reducible refine gate_callee (f := 40) rfl ?_); refine goesL_ (some 16) rfl rfl Try.func40 (by kernel_rfl) rfl #[.int .i64 a0_1, .int .i64 (wrap64 (a0_0 - 1))] rfl (by (try simp only [m_1, m_2, m_3]); first | done | rfl | (simp only [m_4, m_5]; rfl)) ?_; (with_reducible refine (impl_power.calls k a0_1 (wrap64 (a0_0 - 1)) t435 _ A4.out).mono ?_); rintro e w' ⟨rfl, ⟨nd, rfl⟩⟩; refine ⟨_, rfl, ?_⟩))
  go_loopg [5, 7] k (fun kq v5 v7 w' => ∃ (x5_1 : Int) (x7_1 : Int), v5 = .int .i64 x5_1 ∧ v7 = .int .i64 x7_1 ∧ Aside0 (impl_CountRings.l0 kq t435 x5_1 1 x7_1 a0_0 a0_1 = some (r1, r2)) ∧ Aside0 (kq ≤ k) ∧ Aside0 (w'.heap[gb433]? = some (.cells #[.int .i64 a0_0, .int .i64 a0_1] 26 (0, 0))) ∧ Aside0 (Below w.heap.size w w'))
  case atStart => exact ⟨(1), (2), (by first | rfl | (simp; done) | (simp [*]; done)), (by first | rfl | (simp; done) | (simp [*]; done)), H', ⟨Nat.le_refl _⟩, ⟨bK BK433⟩, ⟨bB HB⟩⟩
  clear H'
  try clear c3
  try clear hcz6_0
  try clear hcz6_1
  try clear hcz8_0
  try clear hcz8_1
  try clear hfz6_0
  try clear hfz6_1
  try clear hfz8_0
  try clear hfz8_1
  obtain ⟨x5_1, x7_1, rfl, rfl, HA, HK1, BK433, HB⟩ := hrel
  rcases gk with _ | k1
  · exact absurd HA.out (by simp [impl_CountRings.l0])
  have H := HA.out
  clear HA
  simp only [impl_CountRings.l0] at H
  by_cases c9 : x7_1 < a0_1
  · rw [if_pos c9] at H
    have c9b0 : decide (x7_1 < a0_1) = true := decide_eq_true c9
    clear c9
    have H' := Aside0.mk H
    clear H
    have hcz10_0 := cz0 BK433
    have hcz10_1 := cz1 BK433
    have hfz10_0 := blk_frozen BK433.out 0
    have hfz10_1 := blk_frozen BK433.out 1
    go_wp2
    go_roundg k1
    case measure => have := HK1.out; omega
    case rel => exact ⟨(wrap64 (x5_1 * x7_1)), (wrap64 (x7_1 + 1)), (by first | rfl | (simp; done) | (simp [*]; done)), (by first | rfl | (simp; done) | (simp [*]; done)), H', ⟨by have := HK1.out; omega⟩, ⟨bK BK433⟩, ⟨bB HB⟩⟩
  rw [if_neg c9] at H
  have c9b0 : decide (x7_1 < a0_1) = false := decide_eq_false c9
  clear c9
  have H' := Aside0.mk H
  clear H
  have hcz11_0 := cz0 BK433
  have hcz11_1 := cz1 BK433
  have hfz11_0 := blk_frozen BK433.out 0
  have hfz11_1 := blk_frozen BK433.out 1
  go_wp2
  go_loopg [6, 27] k1 (fun kq v6 v27 w' => ∃ (x6_2 : Int) (x27_2 : Int), v6 = .int .i64 x6_2 ∧ v27 = .int .i64 x27_2 ∧ Aside0 (impl_CountRings.l1 kq t435 x5_1 x6_2 t435 x27_2 a0_0 a0_1 = some (r1, r2)) ∧ Aside0 (kq ≤ k1) ∧ Aside0 (w'.heap[gb433]? = some (.cells #[.int .i64 a0_0, .int .i64 a0_1] 26 (0, 0))) ∧ Aside0 (Below w.heap.size w w'))
  case atStart => exact ⟨(1), (0), (by first | rfl | (simp; done) | (simp [*]; done)), (by first | rfl | (simp; done) | (simp [*]; done)), H', ⟨Nat.le_refl _⟩, ⟨bK BK433⟩, ⟨bB HB⟩⟩
  clear H'
  try clear c9
  try clear c9b0
  try clear hcz11_0
  try clear hcz11_1
  try clear hfz11_0
  try clear hfz11_1
  obtain ⟨x6_2, x27_2, rfl, rfl, HA, HK2, BK433, HB⟩ := hrel
  rcases gk with _ | k2
  · exact absurd HA.out (by simp [impl_CountRings.l1])
  have H := HA.out
  clear HA
  simp only [impl_CountRings.l1] at H
  by_cases c12 : x27_2 < t435
  · rw [if_pos c12] at H
    have c12b0 : decide (x27_2 < t435) = true := decide_eq_true c12
    clear c12
    replace H := Option.bind_eq_some_iff.mp H
    obtain ⟨t436, A130, H⟩ := H
    try dsimp only at H
    have A13 := Aside0.mk A130
    clear A130
    have H' := Aside0.mk H
    clear H
    go_wp2_with (first | ((with_reducible refine gate_callee (f := 41) rfl ?_); refine goesL_ (some 31) rfl rfl Try.func41 (by kernel_rfl) rfl #[.int .i64 x6_2, .int .i64 x5_1] rfl (by (try simp only [m_1, m_2, m_3]); first | done | rfl | (simp only [m_4, m_5]; rfl)) ?_; (with_reducible refine (impl_times.calls x6_2 x5_1 t436 _ A13.out).mono ?_); rintro e w' ⟨rfl, ⟨nd, rfl⟩⟩; refine ⟨_, rfl, ?_⟩))
    go_roundg k2
    case measure => have := HK1.out; have := HK2.out; omega
    case rel => exact ⟨(t436), (wrap64 (x27_2 + 1)), (by first | rfl | (simp; done) | (simp [*]; done)), (by first | rfl | (simp; done) | (simp [*]; done)), H', ⟨by have := HK1.out; have := HK2.out; omega⟩, ⟨bK BK433⟩, ⟨bB HB⟩⟩
  rw [if_neg c12] at H
  have c12b0 : decide (x27_2 < t435) = false := decide_eq_false c12
  clear c12
  have H' := Aside0.mk H
  clear H
  have hcz14_0 := cz0 BK433
  have hcz14_1 := cz1 BK433
  have hfz14_0 := blk_frozen BK433.out 0
  have hfz14_1 := blk_frozen BK433.out 1
  go_wp2
  go_loopg [6, 37] k2 (fun kq v6 v37 w' => ∃ (x6_3 : Int) (x37_3 : Int), v6 = .int .i64 x6_3 ∧ v37 = .int .i64 x37_3 ∧ Aside0 (impl_CountRings.l2 kq x6_3 (wrap64 (t435 - a0_0)) x37_3 a0_0 a0_1 = some (r1, r2)) ∧ Aside0 (kq ≤ k2) ∧ Aside0 (w'.heap[gb433]? = some (.cells #[.int .i64 a0_0, .int .i64 a0_1] 26 (0, 0))) ∧ Aside0 (Below w.heap.size w w'))
  case atStart => exact ⟨(x6_2), (0), (by first | rfl | (simp; done) | (simp [*]; done)), (by first | rfl | (simp; done) | (simp [*]; done)), H', ⟨Nat.le_refl _⟩, ⟨bK BK433⟩, ⟨bB HB⟩⟩
  clear H'
  try clear c12
  try clear c12b0
  try clear hcz14_0
  try clear hcz14_1
  try clear hfz14_0
  try clear hfz14_1
  obtain ⟨x6_3, x37_3, rfl, rfl, HA, HK3, BK433, HB⟩ := hrel
  rcases gk with _ | k3
  · exact absurd HA.out (by simp [impl_CountRings.l2])
  have H := HA.out
  clear HA
  simp only [impl_CountRings.l2] at H
  by_cases c15 : x37_3 < (wrap64 (t435 - a0_0))
  rotate_left
  · rw [if_neg c15] at H
    have c15b0 : decide (x37_3 < (wrap64 (t435 - a0_0))) = false := decide_eq_false c15
    clear c15
    replace H := Option.bind_eq_some_iff.mp H
    obtain ⟨⟨t438, t439⟩, A180, H⟩ := H
    try dsimp only at H
    have A18 := Aside0.mk A180
    clear A180
    simp only [Option.some.injEq, Prod.mk.injEq] at H
    obtain ⟨rfl, rfl⟩ := H
    go_wp2_with (first | ((with_reducible refine gate_callee (f := 42) rfl ?_); refine goesL_ (some 45) rfl rfl Try.func42 (by kernel_rfl) rfl #[.int .i64 x6_3] rfl (by (try simp only [m_1, m_2, m_3]); first | done | rfl | (simp only [m_4, m_5]; rfl)) ?_; (with_reducible refine (impl_found.calls x6_3 t438 t439 _ A18.out).mono ?_); rintro e w19 ⟨rfl, hb⟩; refine ⟨_, rfl, ?_⟩; replace BK433 := bbx hb BK433; replace HB := bsx hb HB; skip; (try clear hb); (try clear hb2); (try clear hk); (try clear hi)))
    go_ret2
    exact ⟨by first | rfl | (simp [errW_none, errW_some] <;> rfl) | (simp [*, errW_none, errW_some] <;> rfl), bB HB⟩
  rw [if_pos c15] at H
  have c15b0 : decide (x37_3 < (wrap64 (t435 - a0_0))) = true := decide_eq_true c15
  clear c15
  replace H := Option.bind_eq_some_iff.mp H
  obtain ⟨t437, A160, H⟩ := H
  try dsimp only at H
  have A16 := Aside0.mk A160
  clear A160
  have H' := Aside0.mk H
  clear H
  have hcz17_0 := cz0 BK433
  have hcz17_1 := cz1 BK433
  have hfz17_0 := blk_frozen BK433.out 0
  have hfz17_1 := blk_frozen BK433.out 1
  go_wp2_with (first | ((with_reducible refine gate_callee (f := 41) rfl ?_); refine goesL_ (some 42) rfl rfl Try.func41 (by kernel_rfl) rfl #[.int .i64 x6_3, .int .i64 a0_1] rfl (by (try simp only [m_1, m_2, m_3]); first | done | rfl | (simp only [m_4, m_5]; rfl)) ?_; (with_reducible refine (impl_times.calls x6_3 a0_1 t437 _ A16.out).mono ?_); rintro e w' ⟨rfl, ⟨nd, rfl⟩⟩; refine ⟨_, rfl, ?_⟩))
  go_roundg k3
  case measure => have := HK1.out; have := HK2.out; have := HK3.out; omega
  case rel => exact ⟨(t437), (wrap64 (x37_3 + 1)), (by first | rfl | (simp; done) | (simp [*]; done)), (by first | rfl | (simp; done) | (simp [*]; done)), H', ⟨by have := HK1.out; have := HK2.out; have := HK3.out; omega⟩, ⟨bK BK433⟩, ⟨bB HB⟩⟩
/-! ### impl_TurnedRing: function 19 -/
def impl_TurnedRing.f (k : Nat) (a0_0 : Int) (a0_1 : Int) (a1 : ByteArray) (a2 : Int) : Option (ByteArray × Bool) := (impl_isRing.f k a0_0 a0_1 a1).bind fun t441 => (if t441 = true then ((impl_within.f a2 0 (wrap64 ((a1.size : Int) - 1))).bind fun t442 => (if t442 = true then (if 0 ≤ a2 then (if a2 ≤ (a1.size : Int) then (if (a1.extract (a2 : Int).toNat a1.size).size + (a1.extract 0 (a2 : Int).toNat).size ≤ 9223372036854775807 then (some ((a1.extract (a2 : Int).toNat a1.size) ++ (a1.extract 0 (a2 : Int).toNat), true)) else (none)) else (none)) else (none)) else (some ((⟨#[]⟩ : ByteArray), false)))) else (some ((⟨#[]⟩ : ByteArray), false)))
theorem impl_TurnedRing.mono : ∀ a0 a1 a2 a3 k, LeO (impl_TurnedRing.f k a0 a1 a2 a3) (impl_TurnedRing.f (k + 1) a0 a1 a2 a3) := by
  intro a0 a1 a2 a3 k
  unfold impl_TurnedRing.f
  repeat' first
      | (with_reducible exact impl_isRing.mono _ _ _ _)
      | (with_reducible exact LeO.refl _)
      | (with_reducible exact LeO.none _)
      | (with_reducible refine LeO.ite ?_ ?_)
      | (with_reducible refine LeO.bind ?_ (fun _ => ?_))
      | exact impl_isRing.mono _ _ _ _
      | exact LeO.none _
      | refine LeO.ite ?_ ?_
      | refine LeO.bind ?_ (fun _ => ?_)
set_option maxHeartbeats 8000000 in
set_option maxRecDepth 100000 in
theorem impl_TurnedRing.calls (k : Nat) (a0_0 : Int) (a0_1 : Int) (a1 : ByteArray) (a2 : Int) (r1 : ByteArray) (r2 : Bool) (w : World) (h : impl_TurnedRing.f k a0_0 a0_1 a1 a2 = some (r1, r2)) :
    Calls Try.prog 19 #[.agg #[.int .i64 a0_0, .int .i64 a0_1], .string a1, .int .i64 a2] w fun e w' => e = .returned (.tuple #[.string r1, .bool r2]) ∧ Below w.heap.size w w' := by
  have hu26 := Try.underlying26
  have HB := Aside0.mk (Below.refl w.heap.size w)
  have H : ((impl_isRing.f k a0_0 a0_1 a1).bind fun t441 => (if t441 = true then ((impl_within.f a2 0 (wrap64 ((a1.size : Int) - 1))).bind fun t442 => (if t442 = true then (if 0 ≤ a2 then (if a2 ≤ (a1.size : Int) then (if (a1.extract (a2 : Int).toNat a1.size).size + (a1.extract 0 (a2 : Int).toNat).size ≤ 9223372036854775807 then (some ((a1.extract (a2 : Int).toNat a1.size) ++ (a1.extract 0 (a2 : Int).toNat), true)) else (none)) else (none)) else (none)) else (some ((⟨#[]⟩ : ByteArray), false)))) else (some ((⟨#[]⟩ : ByteArray), false)))) = some (r1, r2) := h
  clear h
  replace H := Option.bind_eq_some_iff.mp H
  obtain ⟨t441, A40, H⟩ := H
  try dsimp only at H
  have A4 := Aside0.mk A40
  clear A40
  by_cases c5 : t441 = true
  rotate_left
  · replace c5 := Bool.eq_false_iff.mpr c5
    subst c5
    rw [if_neg (show ¬ (false = true) by decide)] at H
    simp only [Option.some.injEq, Prod.mk.injEq] at H
    obtain ⟨rfl, rfl⟩ := H
    go_enter Try.func19, Try.ntmps19
    go_wp2_with (first | ((with_reducible refine gate_dst (N := 3) rfl ?_); (try (refine gate_guard (by rfl) ?_; dsimp only)); refine box_event ?hg (N := 3) ?hd (cs := #[.int .i64 a0_0, .int .i64 a0_1]) (t := 26) ?hr ?_; (case hd => rfl); (case hg => rfl); (case hr => first | (go_simp; done) | (go_simp; rfl)); intro gb440 hg w19 hbox hb; have n0_ := bsx hb HB; have n1_ := Aside0.mk (hbox); have n2_ := gwx hg HB; have n3_ := n2_; clear HB; have HB := n0_; have BK440 := n1_; have GW440 := n2_; have GE440 := n3_; clear n0_ n1_ n2_ n3_; clear hb hbox hg; have hcz20_0 := cz0 BK440; have hcz20_1 := cz1 BK440; have hfz20_0 := blk_frozen BK440.out 0; have hfz20_1 := blk_frozen BK440.out 1) | (go_at_call 33; (with_reducible refine (impl_isRing.calls k a0_0 a0_1 a1 false _ A4.out).mono ?_); rintro e w21 ⟨rfl, hb⟩; replace BK440 := bbx hb BK440; replace HB := bsx hb HB; skip; (try clear hb); (try clear hb2); (try clear hk); (try clear hi)))
    repeat (go_quiet (first | ((with_reducible refine gate_dst (N := 3) rfl ?_); (try (refine gate_guard (by rfl) ?_; dsimp only)); refine box_event ?hg (N := 3) ?hd (cs := #[.int .i64 a0_0, .int .i64 a0_1]) (t := 26) ?hr ?_; (case hd => rfl); (case hg => rfl); (case hr => first | (go_simp; done) | (go_simp; rfl)); intro gb440 hg w19 hbox hb; have n0_ := bsx hb HB; have n1_ := Aside0.mk (hbox); have n2_ := gwx hg HB; have n3_ := n2_; clear HB; have HB := n0_; have BK440 := n1_; have GW440 := n2_; have GE440 := n3_; clear n0_ n1_ n2_ n3_; clear hb hbox hg; have hcz20_0 := cz0 BK440; have hcz20_1 := cz1 BK440; have hfz20_0 := blk_frozen BK440.out 0; have hfz20_1 := blk_frozen BK440.out 1) | (go_at_call 33; (with_reducible refine (impl_isRing.calls k a0_0 a0_1 a1 false _ A4.out).mono ?_); rintro e w21 ⟨rfl, hb⟩; replace BK440 := bbx hb BK440; replace HB := bsx hb HB; skip; (try clear hb); (try clear hb2); (try clear hk); (try clear hi))); try go_wp2_with (first | ((with_reducible refine gate_dst (N := 3) rfl ?_); (try (refine gate_guard (by rfl) ?_; dsimp only)); refine box_event ?hg (N := 3) ?hd (cs := #[.int .i64 a0_0, .int .i64 a0_1]) (t := 26) ?hr ?_; (case hd => rfl); (case hg => rfl); (case hr => first | (go_simp; done) | (go_simp; rfl)); intro gb440 hg w19 hbox hb; have n0_ := bsx hb HB; have n1_ := Aside0.mk (hbox); have n2_ := gwx hg HB; have n3_ := n2_; clear HB; have HB := n0_; have BK440 := n1_; have GW440 := n2_; have GE440 := n3_; clear n0_ n1_ n2_ n3_; clear hb hbox hg; have hcz20_0 := cz0 BK440; have hcz20_1 := cz1 BK440; have hfz20_0 := blk_frozen BK440.out 0; have hfz20_1 := blk_frozen BK440.out 1) | (go_at_call 33; (with_reducible refine (impl_isRing.calls k a0_0 a0_1 a1 false _ A4.out).mono ?_); rintro e w21 ⟨rfl, hb⟩; replace BK440 := bbx hb BK440; replace HB := bsx hb HB; skip; (try clear hb); (try clear hb2); (try clear hk); (try clear hi))))
    go_ret2
    exact ⟨by first | rfl | (simp [errW_none, errW_some] <;> rfl) | (simp [*, errW_none, errW_some] <;> rfl), bB HB⟩

  subst c5
  rw [if_pos rfl] at H
  replace H := Option.bind_eq_some_iff.mp H
  obtain ⟨t442, A60, H⟩ := H
  try dsimp only at H
  have A6 := Aside0.mk A60
  clear A60
  by_cases c7 : t442 = true
  rotate_left
  · replace c7 := Bool.eq_false_iff.mpr c7
    subst c7
    rw [if_neg (show ¬ (false = true) by decide)] at H
    simp only [Option.some.injEq, Prod.mk.injEq] at H
    obtain ⟨rfl, rfl⟩ := H
    go_enter Try.func19, Try.ntmps19
    go_wp2_with (first | ((with_reducible refine gate_dst (N := 3) rfl ?_); (try (refine gate_guard (by rfl) ?_; dsimp only)); refine box_event ?hg (N := 3) ?hd (cs := #[.int .i64 a0_0, .int .i64 a0_1]) (t := 26) ?hr ?_; (case hd => rfl); (case hg => rfl); (case hr => first | (go_simp; done) | (go_simp; rfl)); intro gb440 hg w16 hbox hb; have n0_ := bsx hb HB; have n1_ := Aside0.mk (hbox); have n2_ := gwx hg HB; have n3_ := n2_; clear HB; have HB := n0_; have BK440 := n1_; have GW440 := n2_; have GE440 := n3_; clear n0_ n1_ n2_ n3_; clear hb hbox hg; have hcz17_0 := cz0 BK440; have hcz17_1 := cz1 BK440; have hfz17_0 := blk_frozen BK440.out 0; have hfz17_1 := blk_frozen BK440.out 1) | (go_at_call 33; (with_reducible refine (impl_isRing.calls k a0_0 a0_1 a1 true _ A4.out).mono ?_); rintro e w18 ⟨rfl, hb⟩; replace BK440 := bbx hb BK440; replace HB := bsx hb HB; skip; (try clear hb); (try clear hb2); (try clear hk); (try clear hi)) | (go_at_call 43; (with_reducible refine (impl_within.calls a2 0 (wrap64 ((a1.size : Int) - 1)) false _ A6.out).mono ?_); rintro e w' ⟨rfl, ⟨nd, rfl⟩⟩; (try first | exact ⟨rfl, _, World.drewN_drewN _ _ _⟩ | exact ⟨rfl, _, Eq.trans (World.drewN_drewN _ _ _) (congrArg (World.drewN _) (Nat.add_assoc _ _ _))⟩)))
    repeat (go_quiet (first | ((with_reducible refine gate_dst (N := 3) rfl ?_); (try (refine gate_guard (by rfl) ?_; dsimp only)); refine box_event ?hg (N := 3) ?hd (cs := #[.int .i64 a0_0, .int .i64 a0_1]) (t := 26) ?hr ?_; (case hd => rfl); (case hg => rfl); (case hr => first | (go_simp; done) | (go_simp; rfl)); intro gb440 hg w16 hbox hb; have n0_ := bsx hb HB; have n1_ := Aside0.mk (hbox); have n2_ := gwx hg HB; have n3_ := n2_; clear HB; have HB := n0_; have BK440 := n1_; have GW440 := n2_; have GE440 := n3_; clear n0_ n1_ n2_ n3_; clear hb hbox hg; have hcz17_0 := cz0 BK440; have hcz17_1 := cz1 BK440; have hfz17_0 := blk_frozen BK440.out 0; have hfz17_1 := blk_frozen BK440.out 1) | (go_at_call 33; (with_reducible refine (impl_isRing.calls k a0_0 a0_1 a1 true _ A4.out).mono ?_); rintro e w18 ⟨rfl, hb⟩; replace BK440 := bbx hb BK440; replace HB := bsx hb HB; skip; (try clear hb); (try clear hb2); (try clear hk); (try clear hi)) | (go_at_call 43; (with_reducible refine (impl_within.calls a2 0 (wrap64 ((a1.size : Int) - 1)) false _ A6.out).mono ?_); rintro e w' ⟨rfl, ⟨nd, rfl⟩⟩; (try first | exact ⟨rfl, _, World.drewN_drewN _ _ _⟩ | exact ⟨rfl, _, Eq.trans (World.drewN_drewN _ _ _) (congrArg (World.drewN _) (Nat.add_assoc _ _ _))⟩))); try go_wp2_with (first | ((with_reducible refine gate_dst (N := 3) rfl ?_); (try (refine gate_guard (by rfl) ?_; dsimp only)); refine box_event ?hg (N := 3) ?hd (cs := #[.int .i64 a0_0, .int .i64 a0_1]) (t := 26) ?hr ?_; (case hd => rfl); (case hg => rfl); (case hr => first | (go_simp; done) | (go_simp; rfl)); intro gb440 hg w16 hbox hb; have n0_ := bsx hb HB; have n1_ := Aside0.mk (hbox); have n2_ := gwx hg HB; have n3_ := n2_; clear HB; have HB := n0_; have BK440 := n1_; have GW440 := n2_; have GE440 := n3_; clear n0_ n1_ n2_ n3_; clear hb hbox hg; have hcz17_0 := cz0 BK440; have hcz17_1 := cz1 BK440; have hfz17_0 := blk_frozen BK440.out 0; have hfz17_1 := blk_frozen BK440.out 1) | (go_at_call 33; (with_reducible refine (impl_isRing.calls k a0_0 a0_1 a1 true _ A4.out).mono ?_); rintro e w18 ⟨rfl, hb⟩; replace BK440 := bbx hb BK440; replace HB := bsx hb HB; skip; (try clear hb); (try clear hb2); (try clear hk); (try clear hi)) | (go_at_call 43; (with_reducible refine (impl_within.calls a2 0 (wrap64 ((a1.size : Int) - 1)) false _ A6.out).mono ?_); rintro e w' ⟨rfl, ⟨nd, rfl⟩⟩; (try first | exact ⟨rfl, _, World.drewN_drewN _ _ _⟩ | exact ⟨rfl, _, Eq.trans (World.drewN_drewN _ _ _) (congrArg (World.drewN _) (Nat.add_assoc _ _ _))⟩))))
    go_ret2
    exact ⟨by first | rfl | (simp [errW_none, errW_some] <;> rfl) | (simp [*, errW_none, errW_some] <;> rfl), bB HB⟩
  subst c7
  rw [if_pos rfl] at H
  by_cases c8 : 0 ≤ a2
  rotate_left
  · rw [if_neg c8] at H
    exact absurd H (by simp)
  rw [if_pos c8] at H
  have c8b0 := eq_true c8
  have c8b1 : decide (0 ≤ a2) = true := decide_eq_true c8
  clear c8
  by_cases c9 : a2 ≤ (a1.size : Int)
  rotate_left
  · rw [if_neg c9] at H
    exact absurd H (by simp)
  rw [if_pos c9] at H
  have c9b0 := eq_true c9
  have c9b1 : decide (a2 ≤ (a1.size : Int)) = true := decide_eq_true c9
  clear c9
  have c10b0 := eq_true (of_decide_eq_true (by first | (with_reducible assumption) | assumption) : 0 ≤ a2)
  have c11b0 := eq_true (of_decide_eq_true (by first | (with_reducible assumption) | assumption) : a2 ≤ (a1.size : Int))
  by_cases c12 : (a1.extract (a2 : Int).toNat a1.size).size + (a1.extract 0 (a2 : Int).toNat).size ≤ 9223372036854775807
  rotate_left
  · rw [if_neg c12] at H
    exact absurd H (by simp)
  rw [if_pos c12] at H
  have c12b0 := eq_true c12
  have c12b1 : decide ((a1.extract (a2 : Int).toNat a1.size).size + (a1.extract 0 (a2 : Int).toNat).size ≤ 9223372036854775807) = true := decide_eq_true c12
  try have c12b2 : (9223372036854775807 < (a1.extract (a2 : Int).toNat a1.size).size + (a1.extract 0 (a2 : Int).toNat).size) = False := eq_false (Nat.not_lt.2 c12)
  have c12b3 : (9223372036854775807 < (a1.size - a2.toNat) + a2.toNat) = False := eq_false (by have e0_ : (a1.extract 0 a2.toNat).size = a2.toNat := (by rw [ByteArray.size_extract]; have q_ : a2 ≤ (a1.size : Int) := of_eq_true (by assumption); omega); have f0_ : (a1.extract a2.toNat a1.size).size = a1.size - a2.toNat := (by rw [ByteArray.size_extract]; omega); have h_ := c12; rw [e0_] at h_; rw [f0_] at h_; omega)
  simp only [Option.some.injEq, Prod.mk.injEq] at H
  obtain ⟨rfl, rfl⟩ := H
  go_enter Try.func19, Try.ntmps19
  go_wp2_with (first | ((with_reducible refine gate_dst (N := 3) rfl ?_); (try (refine gate_guard (by rfl) ?_; dsimp only)); refine box_event ?hg (N := 3) ?hd (cs := #[.int .i64 a0_0, .int .i64 a0_1]) (t := 26) ?hr ?_; (case hd => rfl); (case hg => rfl); (case hr => first | (go_simp; done) | (go_simp; rfl)); intro gb440 hg w13 hbox hb; have n0_ := bsx hb HB; have n1_ := Aside0.mk (hbox); have n2_ := gwx hg HB; have n3_ := n2_; clear HB; have HB := n0_; have BK440 := n1_; have GW440 := n2_; have GE440 := n3_; clear n0_ n1_ n2_ n3_; clear hb hbox hg; have hcz14_0 := cz0 BK440; have hcz14_1 := cz1 BK440; have hfz14_0 := blk_frozen BK440.out 0; have hfz14_1 := blk_frozen BK440.out 1) | (go_at_call 33; (with_reducible refine (impl_isRing.calls k a0_0 a0_1 a1 true _ A4.out).mono ?_); rintro e w15 ⟨rfl, hb⟩; replace BK440 := bbx hb BK440; replace HB := bsx hb HB; skip; (try clear hb); (try clear hb2); (try clear hk); (try clear hi)) | (go_at_call 43; (with_reducible refine (impl_within.calls a2 0 (wrap64 ((a1.size : Int) - 1)) true _ A6.out).mono ?_); rintro e w' ⟨rfl, ⟨nd, rfl⟩⟩; (try first | exact ⟨rfl, _, World.drewN_drewN _ _ _⟩ | exact ⟨rfl, _, Eq.trans (World.drewN_drewN _ _ _) (congrArg (World.drewN _) (Nat.add_assoc _ _ _))⟩)))
  repeat (go_quiet (first | ((with_reducible refine gate_dst (N := 3) rfl ?_); (try (refine gate_guard (by rfl) ?_; dsimp only)); refine box_event ?hg (N := 3) ?hd (cs := #[.int .i64 a0_0, .int .i64 a0_1]) (t := 26) ?hr ?_; (case hd => rfl); (case hg => rfl); (case hr => first | (go_simp; done) | (go_simp; rfl)); intro gb440 hg w13 hbox hb; have n0_ := bsx hb HB; have n1_ := Aside0.mk (hbox); have n2_ := gwx hg HB; have n3_ := n2_; clear HB; have HB := n0_; have BK440 := n1_; have GW440 := n2_; have GE440 := n3_; clear n0_ n1_ n2_ n3_; clear hb hbox hg; have hcz14_0 := cz0 BK440; have hcz14_1 := cz1 BK440; have hfz14_0 := blk_frozen BK440.out 0; have hfz14_1 := blk_frozen BK440.out 1) | (go_at_call 33; (with_reducible refine (impl_isRing.calls k a0_0 a0_1 a1 true _ A4.out).mono ?_); rintro e w15 ⟨rfl, hb⟩; replace BK440 := bbx hb BK440; replace HB := bsx hb HB; skip; (try clear hb); (try clear hb2); (try clear hk); (try clear hi)) | (go_at_call 43; (with_reducible refine (impl_within.calls a2 0 (wrap64 ((a1.size : Int) - 1)) true _ A6.out).mono ?_); rintro e w' ⟨rfl, ⟨nd, rfl⟩⟩; (try first | exact ⟨rfl, _, World.drewN_drewN _ _ _⟩ | exact ⟨rfl, _, Eq.trans (World.drewN_drewN _ _ _) (congrArg (World.drewN _) (Nat.add_assoc _ _ _))⟩))); try go_wp2_with (first | ((with_reducible refine gate_dst (N := 3) rfl ?_); (try (refine gate_guard (by rfl) ?_; dsimp only)); refine box_event ?hg (N := 3) ?hd (cs := #[.int .i64 a0_0, .int .i64 a0_1]) (t := 26) ?hr ?_; (case hd => rfl); (case hg => rfl); (case hr => first | (go_simp; done) | (go_simp; rfl)); intro gb440 hg w13 hbox hb; have n0_ := bsx hb HB; have n1_ := Aside0.mk (hbox); have n2_ := gwx hg HB; have n3_ := n2_; clear HB; have HB := n0_; have BK440 := n1_; have GW440 := n2_; have GE440 := n3_; clear n0_ n1_ n2_ n3_; clear hb hbox hg; have hcz14_0 := cz0 BK440; have hcz14_1 := cz1 BK440; have hfz14_0 := blk_frozen BK440.out 0; have hfz14_1 := blk_frozen BK440.out 1) | (go_at_call 33; (with_reducible refine (impl_isRing.calls k a0_0 a0_1 a1 true _ A4.out).mono ?_); rintro e w15 ⟨rfl, hb⟩; replace BK440 := bbx hb BK440; replace HB := bsx hb HB; skip; (try clear hb); (try clear hb2); (try clear hk); (try clear hi)) | (go_at_call 43; (with_reducible refine (impl_within.calls a2 0 (wrap64 ((a1.size : Int) - 1)) true _ A6.out).mono ?_); rintro e w' ⟨rfl, ⟨nd, rfl⟩⟩; (try first | exact ⟨rfl, _, World.drewN_drewN _ _ _⟩ | exact ⟨rfl, _, Eq.trans (World.drewN_drewN _ _ _) (congrArg (World.drewN _) (Nat.add_assoc _ _ _))⟩))))
  go_ret2
  exact ⟨by first | rfl | (simp [errW_none, errW_some] <;> rfl) | (simp [*, errW_none, errW_some] <;> rfl), bB HB⟩
/-! ### spec_TurnedRing: function 20 -/
def spec_TurnedRing.f (k : Nat) (a0_0 : Int) (a0_1 : Int) (a1 : ByteArray) (a2 : Int) : Option (ByteArray × Bool) := (spec_riGood.f k a0_0 a0_1).bind fun t444 => (if t444 = true then ((spec_riRing.f k a0_0 a0_1 a1).bind fun t445 => (if t445 = true then ((spec_l1In.f a2 0 (wrap64 ((a1.size : Int) - 1))).bind fun t446 => (if t446 = true then (if 0 ≤ a2 then (if a2 ≤ (a1.size : Int) then (if (a1.extract (a2 : Int).toNat a1.size).size + (a1.extract 0 (a2 : Int).toNat).size ≤ 9223372036854775807 then (some ((a1.extract (a2 : Int).toNat a1.size) ++ (a1.extract 0 (a2 : Int).toNat), true)) else (none)) else (none)) else (none)) else (some ((⟨#[]⟩ : ByteArray), false)))) else (some ((⟨#[]⟩ : ByteArray), false)))) else (some ((⟨#[]⟩ : ByteArray), false)))
theorem spec_TurnedRing.mono : ∀ a0 a1 a2 a3 k, LeO (spec_TurnedRing.f k a0 a1 a2 a3) (spec_TurnedRing.f (k + 1) a0 a1 a2 a3) := by
  intro a0 a1 a2 a3 k
  unfold spec_TurnedRing.f
  repeat' first
      | (with_reducible exact spec_riGood.mono _ _ _)
      | (with_reducible exact spec_riRing.mono _ _ _ _)
      | (with_reducible exact LeO.refl _)
      | (with_reducible exact LeO.none _)
      | (with_reducible refine LeO.ite ?_ ?_)
      | (with_reducible refine LeO.bind ?_ (fun _ => ?_))
      | exact spec_riGood.mono _ _ _
      | exact spec_riRing.mono _ _ _ _
      | exact LeO.none _
      | refine LeO.ite ?_ ?_
      | refine LeO.bind ?_ (fun _ => ?_)
set_option maxHeartbeats 8000000 in
set_option maxRecDepth 100000 in
theorem spec_TurnedRing.calls (k : Nat) (a0_0 : Int) (a0_1 : Int) (a1 : ByteArray) (a2 : Int) (r1 : ByteArray) (r2 : Bool) (w : World) (h : spec_TurnedRing.f k a0_0 a0_1 a1 a2 = some (r1, r2)) :
    Calls Try.prog 20 #[.agg #[.int .i64 a0_0, .int .i64 a0_1], .string a1, .int .i64 a2] w fun e w' => e = .returned (.tuple #[.string r1, .bool r2]) ∧ Below w.heap.size w w' := by
  have hu26 := Try.underlying26
  have HB := Aside0.mk (Below.refl w.heap.size w)
  have H : ((spec_riGood.f k a0_0 a0_1).bind fun t444 => (if t444 = true then ((spec_riRing.f k a0_0 a0_1 a1).bind fun t445 => (if t445 = true then ((spec_l1In.f a2 0 (wrap64 ((a1.size : Int) - 1))).bind fun t446 => (if t446 = true then (if 0 ≤ a2 then (if a2 ≤ (a1.size : Int) then (if (a1.extract (a2 : Int).toNat a1.size).size + (a1.extract 0 (a2 : Int).toNat).size ≤ 9223372036854775807 then (some ((a1.extract (a2 : Int).toNat a1.size) ++ (a1.extract 0 (a2 : Int).toNat), true)) else (none)) else (none)) else (none)) else (some ((⟨#[]⟩ : ByteArray), false)))) else (some ((⟨#[]⟩ : ByteArray), false)))) else (some ((⟨#[]⟩ : ByteArray), false)))) = some (r1, r2) := h
  clear h
  replace H := Option.bind_eq_some_iff.mp H
  obtain ⟨t444, A40, H⟩ := H
  try dsimp only at H
  have A4 := Aside0.mk A40
  clear A40
  by_cases c5 : t444 = true
  rotate_left
  · replace c5 := Bool.eq_false_iff.mpr c5
    subst c5
    rw [if_neg (show ¬ (false = true) by decide)] at H
    simp only [Option.some.injEq, Prod.mk.injEq] at H
    obtain ⟨rfl, rfl⟩ := H
    go_enter Try.func20, Try.ntmps20
    go_wp2_with (first | ((with_reducible refine gate_dst (N := 3) rfl ?_); (try (refine gate_guard (by rfl) ?_; dsimp only)); refine box_event ?hg (N := 3) ?hd (cs := #[.int .i64 a0_0, .int .i64 a0_1]) (t := 26) ?hr ?_; (case hd => rfl); (case hg => rfl); (case hr => first | (go_simp; done) | (go_simp; rfl)); intro gb443 hg w30 hbox hb; have n0_ := bsx hb HB; have n1_ := Aside0.mk (hbox); have n2_ := gwx hg HB; have n3_ := n2_; clear HB; have HB := n0_; have BK443 := n1_; have GW443 := n2_; have GE443 := n3_; clear n0_ n1_ n2_ n3_; clear hb hbox hg; have hcz31_0 := cz0 BK443; have hcz31_1 := cz1 BK443; have hfz31_0 := blk_frozen BK443.out 0; have hfz31_1 := blk_frozen BK443.out 1) | (go_at_call 25; (with_reducible refine (spec_riGood.calls k a0_0 a0_1 false _ A4.out).mono ?_); rintro e w32 ⟨rfl, hb⟩; replace BK443 := bbx hb BK443; replace HB := bsx hb HB; skip; (try clear hb); (try clear hb2); (try clear hk); (try clear hi)))
    repeat (go_quiet (first | ((with_reducible refine gate_dst (N := 3) rfl ?_); (try (refine gate_guard (by rfl) ?_; dsimp only)); refine box_event ?hg (N := 3) ?hd (cs := #[.int .i64 a0_0, .int .i64 a0_1]) (t := 26) ?hr ?_; (case hd => rfl); (case hg => rfl); (case hr => first | (go_simp; done) | (go_simp; rfl)); intro gb443 hg w30 hbox hb; have n0_ := bsx hb HB; have n1_ := Aside0.mk (hbox); have n2_ := gwx hg HB; have n3_ := n2_; clear HB; have HB := n0_; have BK443 := n1_; have GW443 := n2_; have GE443 := n3_; clear n0_ n1_ n2_ n3_; clear hb hbox hg; have hcz31_0 := cz0 BK443; have hcz31_1 := cz1 BK443; have hfz31_0 := blk_frozen BK443.out 0; have hfz31_1 := blk_frozen BK443.out 1) | (go_at_call 25; (with_reducible refine (spec_riGood.calls k a0_0 a0_1 false _ A4.out).mono ?_); rintro e w32 ⟨rfl, hb⟩; replace BK443 := bbx hb BK443; replace HB := bsx hb HB; skip; (try clear hb); (try clear hb2); (try clear hk); (try clear hi))); try go_wp2_with (first | ((with_reducible refine gate_dst (N := 3) rfl ?_); (try (refine gate_guard (by rfl) ?_; dsimp only)); refine box_event ?hg (N := 3) ?hd (cs := #[.int .i64 a0_0, .int .i64 a0_1]) (t := 26) ?hr ?_; (case hd => rfl); (case hg => rfl); (case hr => first | (go_simp; done) | (go_simp; rfl)); intro gb443 hg w30 hbox hb; have n0_ := bsx hb HB; have n1_ := Aside0.mk (hbox); have n2_ := gwx hg HB; have n3_ := n2_; clear HB; have HB := n0_; have BK443 := n1_; have GW443 := n2_; have GE443 := n3_; clear n0_ n1_ n2_ n3_; clear hb hbox hg; have hcz31_0 := cz0 BK443; have hcz31_1 := cz1 BK443; have hfz31_0 := blk_frozen BK443.out 0; have hfz31_1 := blk_frozen BK443.out 1) | (go_at_call 25; (with_reducible refine (spec_riGood.calls k a0_0 a0_1 false _ A4.out).mono ?_); rintro e w32 ⟨rfl, hb⟩; replace BK443 := bbx hb BK443; replace HB := bsx hb HB; skip; (try clear hb); (try clear hb2); (try clear hk); (try clear hi))))
    go_ret2
    exact ⟨by first | rfl | (simp [errW_none, errW_some] <;> rfl) | (simp [*, errW_none, errW_some] <;> rfl), bB HB⟩

  subst c5
  rw [if_pos rfl] at H
  replace H := Option.bind_eq_some_iff.mp H
  obtain ⟨t445, A60, H⟩ := H
  try dsimp only at H
  have A6 := Aside0.mk A60
  clear A60
  by_cases c7 : t445 = true
  rotate_left
  · replace c7 := Bool.eq_false_iff.mpr c7
    subst c7
    rw [if_neg (show ¬ (false = true) by decide)] at H
    simp only [Option.some.injEq, Prod.mk.injEq] at H
    obtain ⟨rfl, rfl⟩ := H
    go_enter Try.func20, Try.ntmps20
    go_wp2_with (first | ((with_reducible refine gate_dst (N := 3) rfl ?_); (try (refine gate_guard (by rfl) ?_; dsimp only)); refine box_event ?hg (N := 3) ?hd (cs := #[.int .i64 a0_0, .int .i64 a0_1]) (t := 26) ?hr ?_; (case hd => rfl); (case hg => rfl); (case hr => first | (go_simp; done) | (go_simp; rfl)); intro gb443 hg w25 hbox hb; have n0_ := bsx hb HB; have n1_ := Aside0.mk (hbox); have n2_ := gwx hg HB; have n3_ := n2_; clear HB; have HB := n0_; have BK443 := n1_; have GW443 := n2_; have GE443 := n3_; clear n0_ n1_ n2_ n3_; clear hb hbox hg; have hcz26_0 := cz0 BK443; have hcz26_1 := cz1 BK443; have hfz26_0 := blk_frozen BK443.out 0; have hfz26_1 := blk_frozen BK443.out 1) | (go_at_call 25; (with_reducible refine (spec_riGood.calls k a0_0 a0_1 true _ A4.out).mono ?_); rintro e w27 ⟨rfl, hb⟩; replace BK443 := bbx hb BK443; replace HB := bsx hb HB; skip; (try clear hb); (try clear hb2); (try clear hk); (try clear hi); have hcz28_0 := cz0 BK443; have hcz28_1 := cz1 BK443; have hfz28_0 := blk_frozen BK443.out 0; have hfz28_1 := blk_frozen BK443.out 1) | (go_at_call 34; (with_reducible refine (spec_riRing.calls k a0_0 a0_1 a1 false _ A6.out).mono ?_); rintro e w29 ⟨rfl, hb⟩; replace BK443 := bbx hb BK443; replace HB := bsx hb HB; skip; (try clear hb); (try clear hb2); (try clear hk); (try clear hi)))
    repeat (go_quiet (first | ((with_reducible refine gate_dst (N := 3) rfl ?_); (try (refine gate_guard (by rfl) ?_; dsimp only)); refine box_event ?hg (N := 3) ?hd (cs := #[.int .i64 a0_0, .int .i64 a0_1]) (t := 26) ?hr ?_; (case hd => rfl); (case hg => rfl); (case hr => first | (go_simp; done) | (go_simp; rfl)); intro gb443 hg w25 hbox hb; have n0_ := bsx hb HB; have n1_ := Aside0.mk (hbox); have n2_ := gwx hg HB; have n3_ := n2_; clear HB; have HB := n0_; have BK443 := n1_; have GW443 := n2_; have GE443 := n3_; clear n0_ n1_ n2_ n3_; clear hb hbox hg; have hcz26_0 := cz0 BK443; have hcz26_1 := cz1 BK443; have hfz26_0 := blk_frozen BK443.out 0; have hfz26_1 := blk_frozen BK443.out 1) | (go_at_call 25; (with_reducible refine (spec_riGood.calls k a0_0 a0_1 true _ A4.out).mono ?_); rintro e w27 ⟨rfl, hb⟩; replace BK443 := bbx hb BK443; replace HB := bsx hb HB; skip; (try clear hb); (try clear hb2); (try clear hk); (try clear hi); have hcz28_0 := cz0 BK443; have hcz28_1 := cz1 BK443; have hfz28_0 := blk_frozen BK443.out 0; have hfz28_1 := blk_frozen BK443.out 1) | (go_at_call 34; (with_reducible refine (spec_riRing.calls k a0_0 a0_1 a1 false _ A6.out).mono ?_); rintro e w29 ⟨rfl, hb⟩; replace BK443 := bbx hb BK443; replace HB := bsx hb HB; skip; (try clear hb); (try clear hb2); (try clear hk); (try clear hi))); try go_wp2_with (first | ((with_reducible refine gate_dst (N := 3) rfl ?_); (try (refine gate_guard (by rfl) ?_; dsimp only)); refine box_event ?hg (N := 3) ?hd (cs := #[.int .i64 a0_0, .int .i64 a0_1]) (t := 26) ?hr ?_; (case hd => rfl); (case hg => rfl); (case hr => first | (go_simp; done) | (go_simp; rfl)); intro gb443 hg w25 hbox hb; have n0_ := bsx hb HB; have n1_ := Aside0.mk (hbox); have n2_ := gwx hg HB; have n3_ := n2_; clear HB; have HB := n0_; have BK443 := n1_; have GW443 := n2_; have GE443 := n3_; clear n0_ n1_ n2_ n3_; clear hb hbox hg; have hcz26_0 := cz0 BK443; have hcz26_1 := cz1 BK443; have hfz26_0 := blk_frozen BK443.out 0; have hfz26_1 := blk_frozen BK443.out 1) | (go_at_call 25; (with_reducible refine (spec_riGood.calls k a0_0 a0_1 true _ A4.out).mono ?_); rintro e w27 ⟨rfl, hb⟩; replace BK443 := bbx hb BK443; replace HB := bsx hb HB; skip; (try clear hb); (try clear hb2); (try clear hk); (try clear hi); have hcz28_0 := cz0 BK443; have hcz28_1 := cz1 BK443; have hfz28_0 := blk_frozen BK443.out 0; have hfz28_1 := blk_frozen BK443.out 1) | (go_at_call 34; (with_reducible refine (spec_riRing.calls k a0_0 a0_1 a1 false _ A6.out).mono ?_); rintro e w29 ⟨rfl, hb⟩; replace BK443 := bbx hb BK443; replace HB := bsx hb HB; skip; (try clear hb); (try clear hb2); (try clear hk); (try clear hi))))
    go_ret2
    exact ⟨by first | rfl | (simp [errW_none, errW_some] <;> rfl) | (simp [*, errW_none, errW_some] <;> rfl), bB HB⟩
  subst c7
  rw [if_pos rfl] at H
  replace H := Option.bind_eq_some_iff.mp H
  obtain ⟨t446, A80, H⟩ := H
  try dsimp only at H
  have A8 := Aside0.mk A80
  clear A80
  by_cases c9 : t446 = true
  rotate_left
  · replace c9 := Bool.eq_false_iff.mpr c9
    subst c9
    rw [if_neg (show ¬ (false = true) by decide)] at H
    simp only [Option.some.injEq, Prod.mk.injEq] at H
    obtain ⟨rfl, rfl⟩ := H
    go_enter Try.func20, Try.ntmps20
    go_wp2_with (first | ((with_reducible refine gate_dst (N := 3) rfl ?_); (try (refine gate_guard (by rfl) ?_; dsimp only)); refine box_event ?hg (N := 3) ?hd (cs := #[.int .i64 a0_0, .int .i64 a0_1]) (t := 26) ?hr ?_; (case hd => rfl); (case hg => rfl); (case hr => first | (go_simp; done) | (go_simp; rfl)); intro gb443 hg w20 hbox hb; have n0_ := bsx hb HB; have n1_ := Aside0.mk (hbox); have n2_ := gwx hg HB; have n3_ := n2_; clear HB; have HB := n0_; have BK443 := n1_; have GW443 := n2_; have GE443 := n3_; clear n0_ n1_ n2_ n3_; clear hb hbox hg; have hcz21_0 := cz0 BK443; have hcz21_1 := cz1 BK443; have hfz21_0 := blk_frozen BK443.out 0; have hfz21_1 := blk_frozen BK443.out 1) | (go_at_call 25; (with_reducible refine (spec_riGood.calls k a0_0 a0_1 true _ A4.out).mono ?_); rintro e w22 ⟨rfl, hb⟩; replace BK443 := bbx hb BK443; replace HB := bsx hb HB; skip; (try clear hb); (try clear hb2); (try clear hk); (try clear hi); have hcz23_0 := cz0 BK443; have hcz23_1 := cz1 BK443; have hfz23_0 := blk_frozen BK443.out 0; have hfz23_1 := blk_frozen BK443.out 1) | (go_at_call 34; (with_reducible refine (spec_riRing.calls k a0_0 a0_1 a1 true _ A6.out).mono ?_); rintro e w24 ⟨rfl, hb⟩; replace BK443 := bbx hb BK443; replace HB := bsx hb HB; skip; (try clear hb); (try clear hb2); (try clear hk); (try clear hi)) | (go_at_call 44; (with_reducible refine (spec_l1In.calls a2 0 (wrap64 ((a1.size : Int) - 1)) false _ A8.out).mono ?_); rintro e w' ⟨rfl, ⟨nd, rfl⟩⟩; (try first | exact ⟨rfl, _, World.drewN_drewN _ _ _⟩ | exact ⟨rfl, _, Eq.trans (World.drewN_drewN _ _ _) (congrArg (World.drewN _) (Nat.add_assoc _ _ _))⟩)))
    repeat (go_quiet (first | ((with_reducible refine gate_dst (N := 3) rfl ?_); (try (refine gate_guard (by rfl) ?_; dsimp only)); refine box_event ?hg (N := 3) ?hd (cs := #[.int .i64 a0_0, .int .i64 a0_1]) (t := 26) ?hr ?_; (case hd => rfl); (case hg => rfl); (case hr => first | (go_simp; done) | (go_simp; rfl)); intro gb443 hg w20 hbox hb; have n0_ := bsx hb HB; have n1_ := Aside0.mk (hbox); have n2_ := gwx hg HB; have n3_ := n2_; clear HB; have HB := n0_; have BK443 := n1_; have GW443 := n2_; have GE443 := n3_; clear n0_ n1_ n2_ n3_; clear hb hbox hg; have hcz21_0 := cz0 BK443; have hcz21_1 := cz1 BK443; have hfz21_0 := blk_frozen BK443.out 0; have hfz21_1 := blk_frozen BK443.out 1) | (go_at_call 25; (with_reducible refine (spec_riGood.calls k a0_0 a0_1 true _ A4.out).mono ?_); rintro e w22 ⟨rfl, hb⟩; replace BK443 := bbx hb BK443; replace HB := bsx hb HB; skip; (try clear hb); (try clear hb2); (try clear hk); (try clear hi); have hcz23_0 := cz0 BK443; have hcz23_1 := cz1 BK443; have hfz23_0 := blk_frozen BK443.out 0; have hfz23_1 := blk_frozen BK443.out 1) | (go_at_call 34; (with_reducible refine (spec_riRing.calls k a0_0 a0_1 a1 true _ A6.out).mono ?_); rintro e w24 ⟨rfl, hb⟩; replace BK443 := bbx hb BK443; replace HB := bsx hb HB; skip; (try clear hb); (try clear hb2); (try clear hk); (try clear hi)) | (go_at_call 44; (with_reducible refine (spec_l1In.calls a2 0 (wrap64 ((a1.size : Int) - 1)) false _ A8.out).mono ?_); rintro e w' ⟨rfl, ⟨nd, rfl⟩⟩; (try first | exact ⟨rfl, _, World.drewN_drewN _ _ _⟩ | exact ⟨rfl, _, Eq.trans (World.drewN_drewN _ _ _) (congrArg (World.drewN _) (Nat.add_assoc _ _ _))⟩))); try go_wp2_with (first | ((with_reducible refine gate_dst (N := 3) rfl ?_); (try (refine gate_guard (by rfl) ?_; dsimp only)); refine box_event ?hg (N := 3) ?hd (cs := #[.int .i64 a0_0, .int .i64 a0_1]) (t := 26) ?hr ?_; (case hd => rfl); (case hg => rfl); (case hr => first | (go_simp; done) | (go_simp; rfl)); intro gb443 hg w20 hbox hb; have n0_ := bsx hb HB; have n1_ := Aside0.mk (hbox); have n2_ := gwx hg HB; have n3_ := n2_; clear HB; have HB := n0_; have BK443 := n1_; have GW443 := n2_; have GE443 := n3_; clear n0_ n1_ n2_ n3_; clear hb hbox hg; have hcz21_0 := cz0 BK443; have hcz21_1 := cz1 BK443; have hfz21_0 := blk_frozen BK443.out 0; have hfz21_1 := blk_frozen BK443.out 1) | (go_at_call 25; (with_reducible refine (spec_riGood.calls k a0_0 a0_1 true _ A4.out).mono ?_); rintro e w22 ⟨rfl, hb⟩; replace BK443 := bbx hb BK443; replace HB := bsx hb HB; skip; (try clear hb); (try clear hb2); (try clear hk); (try clear hi); have hcz23_0 := cz0 BK443; have hcz23_1 := cz1 BK443; have hfz23_0 := blk_frozen BK443.out 0; have hfz23_1 := blk_frozen BK443.out 1) | (go_at_call 34; (with_reducible refine (spec_riRing.calls k a0_0 a0_1 a1 true _ A6.out).mono ?_); rintro e w24 ⟨rfl, hb⟩; replace BK443 := bbx hb BK443; replace HB := bsx hb HB; skip; (try clear hb); (try clear hb2); (try clear hk); (try clear hi)) | (go_at_call 44; (with_reducible refine (spec_l1In.calls a2 0 (wrap64 ((a1.size : Int) - 1)) false _ A8.out).mono ?_); rintro e w' ⟨rfl, ⟨nd, rfl⟩⟩; (try first | exact ⟨rfl, _, World.drewN_drewN _ _ _⟩ | exact ⟨rfl, _, Eq.trans (World.drewN_drewN _ _ _) (congrArg (World.drewN _) (Nat.add_assoc _ _ _))⟩))))
    go_ret2
    exact ⟨by first | rfl | (simp [errW_none, errW_some] <;> rfl) | (simp [*, errW_none, errW_some] <;> rfl), bB HB⟩
  subst c9
  rw [if_pos rfl] at H
  by_cases c10 : 0 ≤ a2
  rotate_left
  · rw [if_neg c10] at H
    exact absurd H (by simp)
  rw [if_pos c10] at H
  have c10b0 := eq_true c10
  have c10b1 : decide (0 ≤ a2) = true := decide_eq_true c10
  clear c10
  by_cases c11 : a2 ≤ (a1.size : Int)
  rotate_left
  · rw [if_neg c11] at H
    exact absurd H (by simp)
  rw [if_pos c11] at H
  have c11b0 := eq_true c11
  have c11b1 : decide (a2 ≤ (a1.size : Int)) = true := decide_eq_true c11
  clear c11
  have c12b0 := eq_true (of_decide_eq_true (by first | (with_reducible assumption) | assumption) : 0 ≤ a2)
  have c13b0 := eq_true (of_decide_eq_true (by first | (with_reducible assumption) | assumption) : a2 ≤ (a1.size : Int))
  by_cases c14 : (a1.extract (a2 : Int).toNat a1.size).size + (a1.extract 0 (a2 : Int).toNat).size ≤ 9223372036854775807
  rotate_left
  · rw [if_neg c14] at H
    exact absurd H (by simp)
  rw [if_pos c14] at H
  have c14b0 := eq_true c14
  have c14b1 : decide ((a1.extract (a2 : Int).toNat a1.size).size + (a1.extract 0 (a2 : Int).toNat).size ≤ 9223372036854775807) = true := decide_eq_true c14
  try have c14b2 : (9223372036854775807 < (a1.extract (a2 : Int).toNat a1.size).size + (a1.extract 0 (a2 : Int).toNat).size) = False := eq_false (Nat.not_lt.2 c14)
  have c14b3 : (9223372036854775807 < (a1.size - a2.toNat) + a2.toNat) = False := eq_false (by have e0_ : (a1.extract 0 a2.toNat).size = a2.toNat := (by rw [ByteArray.size_extract]; have q_ : a2 ≤ (a1.size : Int) := of_eq_true (by assumption); omega); have f0_ : (a1.extract a2.toNat a1.size).size = a1.size - a2.toNat := (by rw [ByteArray.size_extract]; omega); have h_ := c14; rw [e0_] at h_; rw [f0_] at h_; omega)
  simp only [Option.some.injEq, Prod.mk.injEq] at H
  obtain ⟨rfl, rfl⟩ := H
  go_enter Try.func20, Try.ntmps20
  go_wp2_with (first | ((with_reducible refine gate_dst (N := 3) rfl ?_); (try (refine gate_guard (by rfl) ?_; dsimp only)); refine box_event ?hg (N := 3) ?hd (cs := #[.int .i64 a0_0, .int .i64 a0_1]) (t := 26) ?hr ?_; (case hd => rfl); (case hg => rfl); (case hr => first | (go_simp; done) | (go_simp; rfl)); intro gb443 hg w15 hbox hb; have n0_ := bsx hb HB; have n1_ := Aside0.mk (hbox); have n2_ := gwx hg HB; have n3_ := n2_; clear HB; have HB := n0_; have BK443 := n1_; have GW443 := n2_; have GE443 := n3_; clear n0_ n1_ n2_ n3_; clear hb hbox hg; have hcz16_0 := cz0 BK443; have hcz16_1 := cz1 BK443; have hfz16_0 := blk_frozen BK443.out 0; have hfz16_1 := blk_frozen BK443.out 1) | (go_at_call 25; (with_reducible refine (spec_riGood.calls k a0_0 a0_1 true _ A4.out).mono ?_); rintro e w17 ⟨rfl, hb⟩; replace BK443 := bbx hb BK443; replace HB := bsx hb HB; skip; (try clear hb); (try clear hb2); (try clear hk); (try clear hi); have hcz18_0 := cz0 BK443; have hcz18_1 := cz1 BK443; have hfz18_0 := blk_frozen BK443.out 0; have hfz18_1 := blk_frozen BK443.out 1) | (go_at_call 34; (with_reducible refine (spec_riRing.calls k a0_0 a0_1 a1 true _ A6.out).mono ?_); rintro e w19 ⟨rfl, hb⟩; replace BK443 := bbx hb BK443; replace HB := bsx hb HB; skip; (try clear hb); (try clear hb2); (try clear hk); (try clear hi)) | (go_at_call 44; (with_reducible refine (spec_l1In.calls a2 0 (wrap64 ((a1.size : Int) - 1)) true _ A8.out).mono ?_); rintro e w' ⟨rfl, ⟨nd, rfl⟩⟩; (try first | exact ⟨rfl, _, World.drewN_drewN _ _ _⟩ | exact ⟨rfl, _, Eq.trans (World.drewN_drewN _ _ _) (congrArg (World.drewN _) (Nat.add_assoc _ _ _))⟩)))
  repeat (go_quiet (first | ((with_reducible refine gate_dst (N := 3) rfl ?_); (try (refine gate_guard (by rfl) ?_; dsimp only)); refine box_event ?hg (N := 3) ?hd (cs := #[.int .i64 a0_0, .int .i64 a0_1]) (t := 26) ?hr ?_; (case hd => rfl); (case hg => rfl); (case hr => first | (go_simp; done) | (go_simp; rfl)); intro gb443 hg w15 hbox hb; have n0_ := bsx hb HB; have n1_ := Aside0.mk (hbox); have n2_ := gwx hg HB; have n3_ := n2_; clear HB; have HB := n0_; have BK443 := n1_; have GW443 := n2_; have GE443 := n3_; clear n0_ n1_ n2_ n3_; clear hb hbox hg; have hcz16_0 := cz0 BK443; have hcz16_1 := cz1 BK443; have hfz16_0 := blk_frozen BK443.out 0; have hfz16_1 := blk_frozen BK443.out 1) | (go_at_call 25; (with_reducible refine (spec_riGood.calls k a0_0 a0_1 true _ A4.out).mono ?_); rintro e w17 ⟨rfl, hb⟩; replace BK443 := bbx hb BK443; replace HB := bsx hb HB; skip; (try clear hb); (try clear hb2); (try clear hk); (try clear hi); have hcz18_0 := cz0 BK443; have hcz18_1 := cz1 BK443; have hfz18_0 := blk_frozen BK443.out 0; have hfz18_1 := blk_frozen BK443.out 1) | (go_at_call 34; (with_reducible refine (spec_riRing.calls k a0_0 a0_1 a1 true _ A6.out).mono ?_); rintro e w19 ⟨rfl, hb⟩; replace BK443 := bbx hb BK443; replace HB := bsx hb HB; skip; (try clear hb); (try clear hb2); (try clear hk); (try clear hi)) | (go_at_call 44; (with_reducible refine (spec_l1In.calls a2 0 (wrap64 ((a1.size : Int) - 1)) true _ A8.out).mono ?_); rintro e w' ⟨rfl, ⟨nd, rfl⟩⟩; (try first | exact ⟨rfl, _, World.drewN_drewN _ _ _⟩ | exact ⟨rfl, _, Eq.trans (World.drewN_drewN _ _ _) (congrArg (World.drewN _) (Nat.add_assoc _ _ _))⟩))); try go_wp2_with (first | ((with_reducible refine gate_dst (N := 3) rfl ?_); (try (refine gate_guard (by rfl) ?_; dsimp only)); refine box_event ?hg (N := 3) ?hd (cs := #[.int .i64 a0_0, .int .i64 a0_1]) (t := 26) ?hr ?_; (case hd => rfl); (case hg => rfl); (case hr => first | (go_simp; done) | (go_simp; rfl)); intro gb443 hg w15 hbox hb; have n0_ := bsx hb HB; have n1_ := Aside0.mk (hbox); have n2_ := gwx hg HB; have n3_ := n2_; clear HB; have HB := n0_; have BK443 := n1_; have GW443 := n2_; have GE443 := n3_; clear n0_ n1_ n2_ n3_; clear hb hbox hg; have hcz16_0 := cz0 BK443; have hcz16_1 := cz1 BK443; have hfz16_0 := blk_frozen BK443.out 0; have hfz16_1 := blk_frozen BK443.out 1) | (go_at_call 25; (with_reducible refine (spec_riGood.calls k a0_0 a0_1 true _ A4.out).mono ?_); rintro e w17 ⟨rfl, hb⟩; replace BK443 := bbx hb BK443; replace HB := bsx hb HB; skip; (try clear hb); (try clear hb2); (try clear hk); (try clear hi); have hcz18_0 := cz0 BK443; have hcz18_1 := cz1 BK443; have hfz18_0 := blk_frozen BK443.out 0; have hfz18_1 := blk_frozen BK443.out 1) | (go_at_call 34; (with_reducible refine (spec_riRing.calls k a0_0 a0_1 a1 true _ A6.out).mono ?_); rintro e w19 ⟨rfl, hb⟩; replace BK443 := bbx hb BK443; replace HB := bsx hb HB; skip; (try clear hb); (try clear hb2); (try clear hk); (try clear hi)) | (go_at_call 44; (with_reducible refine (spec_l1In.calls a2 0 (wrap64 ((a1.size : Int) - 1)) true _ A8.out).mono ?_); rintro e w' ⟨rfl, ⟨nd, rfl⟩⟩; (try first | exact ⟨rfl, _, World.drewN_drewN _ _ _⟩ | exact ⟨rfl, _, Eq.trans (World.drewN_drewN _ _ _) (congrArg (World.drewN _) (Nat.add_assoc _ _ _))⟩))))
  go_ret2
  exact ⟨by first | rfl | (simp [errW_none, errW_some] <;> rfl) | (simp [*, errW_none, errW_some] <;> rfl), bB HB⟩
/-! ### impl_around: function 62 -/
def impl_around.f (a0 : Int) (a1 : Int) : Option (Int) := if a1 = 0 then (none) else (some (Int.tmod (wrap64 ((Int.tmod a0 a1) + a1)) a1))
set_option maxHeartbeats 8000000 in
set_option maxRecDepth 100000 in
theorem impl_around.calls (a0 : Int) (a1 : Int) (r : Int) (w : World) (h : impl_around.f a0 a1 = some r) :
    Calls Try.prog 62 #[.int .i64 a0, .int .i64 a1] w fun e w' => e = .returned (.int .i64 r) ∧ Drawn0 w w' := by
  have H : (if a1 = 0 then (none) else (some (Int.tmod (wrap64 ((Int.tmod a0 a1) + a1)) a1))) = some r := h
  clear h
  by_cases c3 : a1 = 0
  · rw [if_pos c3] at H
    exact absurd H (by simp)
  rw [if_neg c3] at H
  have c3b0 : (a1 == 0) = false := beq_eq_false_iff_ne.mpr c3
  have c3b1 : (a1 != 0) = true := bne_iff_ne.mpr c3
  obtain rfl := Option.some.inj H
  go_enter Try.func62, Try.ntmps62
  go_wp2
  go_ret
  exact ⟨by first | rfl | (simp; done) | (simp [*]; done), by repeat (first | exact Drawn0.refl _ | apply Drawn0.step)⟩

/-! ### impl_Lock_raised: function 45 -/
def impl_Lock_raised.l0 : Nat → Int → List Int → Int → Int → Int → Int → Option (ByteArray)
  | 0, _, _, _, _, _, _ => none
  | k + 1, x2, x7, x12, x13, x448000, x448001 => if x13 < x12 then (if 0 ≤ x13 then (if x13 < (x7.length : Int) then ((impl_around.f (wrap64 ((rd x7 x13) + x2)) x448001).bind fun t452 => (impl_Lock_raised.l0 k x2 (x7.set (x13 : Int).toNat t452) x12 (wrap64 (x13 + 1)) x448000 x448001)) else (none)) else (none)) else ((impl_text.f k x7).bind fun t454 => (some t454))
def impl_Lock_raised.f (k : Nat) (a0_0 : Int) (a0_1 : Int) (a1 : ByteArray) (a2 : Int) : Option (ByteArray) := (impl_digits.f k a1).bind fun t448 => (impl_Lock_raised.l0 k a2 t448 (t448.length : Int) 0 a0_0 a0_1)
theorem impl_Lock_raised.mono_l : ∀ k, (∀ y0 y1 y2 y3 y4 y5, LeO (impl_Lock_raised.l0 k y0 y1 y2 y3 y4 y5) (impl_Lock_raised.l0 (k + 1) y0 y1 y2 y3 y4 y5))
  | 0 => fun _ _ _ _ _ _ r h => by simp [impl_Lock_raised.l0] at h
  | k + 1 => by
    have ih0 := impl_Lock_raised.mono_l k
    · intro y0 y1 y2 y3 y4 y5
      unfold impl_Lock_raised.l0
      repeat' first
      | (with_reducible exact ih0 _ _ _ _ _ _)
      | (with_reducible exact impl_digits.mono _ _)
      | (with_reducible exact impl_text.mono _ _)
      | (with_reducible exact LeO.refl _)
      | (with_reducible exact LeO.none _)
      | (with_reducible refine LeO.ite ?_ ?_)
      | (with_reducible refine LeO.bind ?_ (fun _ => ?_))
      | exact ih0 _ _ _ _ _ _
      | exact impl_digits.mono _ _
      | exact impl_text.mono _ _
      | exact LeO.none _
      | refine LeO.ite ?_ ?_
      | refine LeO.bind ?_ (fun _ => ?_)
theorem impl_Lock_raised.mono : ∀ a0 a1 a2 a3 k, LeO (impl_Lock_raised.f k a0 a1 a2 a3) (impl_Lock_raised.f (k + 1) a0 a1 a2 a3) := by
  intro a0 a1 a2 a3 k
  have ih0 := impl_Lock_raised.mono_l k
  unfold impl_Lock_raised.f
  repeat' first
      | (with_reducible exact ih0 _ _ _ _ _ _)
      | (with_reducible exact impl_digits.mono _ _)
      | (with_reducible exact impl_text.mono _ _)
      | (with_reducible exact LeO.refl _)
      | (with_reducible exact LeO.none _)
      | (with_reducible refine LeO.ite ?_ ?_)
      | (with_reducible refine LeO.bind ?_ (fun _ => ?_))
      | exact ih0 _ _ _ _ _ _
      | exact impl_digits.mono _ _
      | exact impl_text.mono _ _
      | exact LeO.none _
      | refine LeO.ite ?_ ?_
      | refine LeO.bind ?_ (fun _ => ?_)
def impl_Lock_raised.T5 : Bool × List (List Nat × List Nat) := (true, [([], []), ([], []), ([], []), ([], []), ([2, 3], [2, 3]), ([4], [4]), ([], []), ([5, 6], [5, 6]), ([], []), ([8], [8]), ([7, 9], [7, 9]), ([0, 1, 0, 1, 2, 3, 4, 5, 6, 7, 8, 9, 10], [0, 1]), ([11, 10, 10, 0, 1, 2, 3, 4, 5, 6, 7, 8, 9, 10], [10, 11])])
def impl_Lock_raised.B5 : List Nat := [0, 0, 0, 0, 12, 28, 0, 124, 0, 256, 1020, 2047, 4095]
theorem impl_Lock_raised.tab5 : rtab .any (opsOf Try.f45 5) = impl_Lock_raised.T5 := by kernel_rfl
theorem impl_Lock_raised.bits5 : waitsOk impl_Lock_raised.T5.2 impl_Lock_raised.B5 = true := by kernel_rfl
set_option maxHeartbeats 8000000 in
set_option maxRecDepth 100000 in
theorem impl_Lock_raised.calls (k : Nat) (a0_0 : Int) (a0_1 : Int) (a1 : ByteArray) (a2 : Int) (r : ByteArray) (w : World) (h : impl_Lock_raised.f k a0_0 a0_1 a1 a2 = some r) :
    Calls Try.prog 45 #[.agg #[.int .i64 a0_0, .int .i64 a0_1], .string a1, .int .i64 a2] w fun e w' => e = .returned (.string r) ∧ Below w.heap.size w w' := by
  have hu26 := Try.underlying26
  have HB := Aside0.mk (Below.refl w.heap.size w)
  have H : ((impl_digits.f k a1).bind fun t448 => (impl_Lock_raised.l0 k a2 t448 (t448.length : Int) 0 a0_0 a0_1)) = some r := h
  clear h
  replace H := Option.bind_eq_some_iff.mp H
  obtain ⟨t448, A40, H⟩ := H
  try dsimp only at H
  have A4 := Aside0.mk A40
  clear A40
  have H' := Aside0.mk H
  clear H
  go_enter Try.func45, Try.ntmps45
  go_wp2_with (first | ((with_reducible refine gate_dst (N := 3) rfl ?_); refine box_event ?hg (N := 3) ?hd (cs := #[.int .i64 a0_0, .int .i64 a0_1]) (t := 26) ?hr ?_; (case hd => rfl); (case hg => rfl); (case hr => first | (go_simp; done) | (go_simp; rfl)); intro gb447 hg w5 hbox hb; have n0_ := bsx hb HB; have n1_ := Aside0.mk (hbox); have n2_ := gwx hg HB; have n3_ := n2_; clear HB; have HB := n0_; have BK447 := n1_; have GW447 := n2_; have GE447 := n3_; clear n0_ n1_ n2_ n3_; clear hb hbox hg) | ((with_reducible refine gate_callee (f := 36) rfl ?_); refine goesL_ (some 10) rfl rfl Try.func36 (by kernel_rfl) rfl #[.string a1] rfl (by (try simp only [m_1, m_2, m_3]); first | done | rfl | (simp only [m_4, m_5]; rfl)) ?_; (with_reducible refine (impl_digits.calls k a1 t448 _ A4.out).mono ?_); rintro e w6 ⟨v449, rfl, ho0, hb⟩; refine ⟨_, rfl, ?_⟩; have n0_ := Aside0.mk (Kd.R_lower ho0 (below_size (bB HB))); replace BK447 := bbx hb BK447; have n2_ := bsx hb HB; clear HB; have HO450 := n0_; have HB := n2_; clear n0_ n2_; (try clear hb); (try clear hb2); (try clear hk); (try clear hi); (try clear ho0); obtain ⟨Ao7, co7, eo7⟩ := Kd.R_slice HO450.out; subst eo7))
  go_loopg [13] k (fun kq v13 w' => ∃ (x7_1 : List Int) (x13_1 : Int), v13 = .int .i64 x13_1 ∧ Aside0 (impl_Lock_raised.l0 kq a2 x7_1 (t448.length : Int) x13_1 a0_0 a0_1 = some r) ∧ Aside0 (kq ≤ k) ∧ Aside0 (Kd.R (Kd.int .i64) 3 w' w.heap.size (fun _ => True) (.slice Ao7 t448.length co7) x7_1) ∧ Aside0 (w'.heap[gb447]? = some (.cells #[.int .i64 a0_0, .int .i64 a0_1] 26 (0, 0))) ∧ Aside0 (Below w.heap.size w w'))
  case atStart => refine ⟨(t448), (0), (by first | rfl | (simp; done) | (simp [*]; done)), H', ⟨Nat.le_refl _⟩, ⟨?_⟩, ⟨?_⟩, ⟨bB HB⟩⟩ <;> (with_reducible repeat (first | refine g_d ?_ _ | refine g_e ?_ | refine g_a ?_ _ | apply r_a | apply r_d | apply r_e)) <;> first | exact BK447.out | exact HO450.out
  clear H'
  obtain ⟨x7_1, x13_1, rfl, HA, HK1, HO_7, BK447, HB⟩ := hrel
  have hl7_1 := (Kd.R_reads' HO_7.out).1
  rw [hl7_1] at HO_7
  (try simp only [hl7_1])
  (try simp only [hl7_1] at BK447)
  rcases gk with _ | k1
  · exact absurd HA.out (by simp [impl_Lock_raised.l0])
  have H := HA.out
  clear HA
  simp only [impl_Lock_raised.l0] at H
  by_cases c8 : x13_1 < (t448.length : Int)
  rotate_left
  · rw [if_neg c8] at H
    have c8b0 : decide (x13_1 < (t448.length : Int)) = false := decide_eq_false c8
    (try simp only [hl7_1] at c8b0)
    clear c8
    replace H := Option.bind_eq_some_iff.mp H
    obtain ⟨t454, A150, H⟩ := H
    try dsimp only at H
    have A15 := Aside0.mk A150
    clear A150
    obtain rfl := Option.some.inj H
    go_wp2_with (first | ((with_reducible refine gate_callee (f := 37) rfl ?_); refine goesL_ (some 30) rfl rfl Try.func37 (by kernel_rfl) rfl #[.slice Ao7 x7_1.length co7] rfl (by (try simp only [m_1, m_2, m_3]); first | done | rfl | (simp only [m_4, m_5]; rfl)) ?_; (with_reducible refine (impl_text.calls k1 _ _ x7_1 t454 _ ?side1 ?side2 A15.out).mono ?_); (case side1 => repeat (first | exact (Kd.R_reads' HO_7.out).2.2 | (with_reducible refine Kd.C_alloc ?_ _) | (with_reducible refine Kd.C_drewN ?_ _) | (with_reducible refine Kd.C_drew ?_))); (case side2 => exact (Kd.R_reads' HO_7.out).2.1); rintro e w16 ⟨rfl, hb⟩; refine ⟨_, rfl, ?_⟩; have n0_ := Aside0.mk (Kd.R_below (by (with_reducible repeat (first | apply r_a | apply r_d | apply r_e)); exact HO_7.out) hb); replace BK447 := bbx hb BK447; replace HB := bsx hb HB; clear HO_7; have HO_7 := n0_; clear n0_; (try clear hb); (try clear hb2); (try clear hk); (try clear hi)))
    go_ret
    exact ⟨by first | rfl | (simp [errW_none, errW_some] <;> rfl) | (simp [*, errW_none, errW_some] <;> rfl), bB HB⟩

  rw [if_pos c8] at H
  have c8b0 : decide (x13_1 < (t448.length : Int)) = true := decide_eq_true c8
  clear c8
  by_cases c9 : 0 ≤ x13_1
  rotate_left
  · rw [if_neg c9] at H
    exact absurd H (by simp)
  rw [if_pos c9] at H
  have c9b0 : decide (0 ≤ x13_1) = true := decide_eq_true c9
  clear c9
  by_cases c10 : x13_1 < (x7_1.length : Int)
  rotate_left
  · rw [if_neg c10] at H
    exact absurd H (by simp)
  rw [if_pos c10] at H
  have c10b0 : decide (x13_1 < (x7_1.length : Int)) = true := decide_eq_true c10
  clear c10
  replace H := Option.bind_eq_some_iff.mp H
  obtain ⟨t452, A110, H⟩ := H
  try dsimp only at H
  have A11 := Aside0.mk A110
  clear A110
  obtain ⟨y453, hy453⟩ : ∃ y_ : List Int, y_ = (x7_1.set (x13_1 : Int).toNat t452) := ⟨_, rfl⟩
  replace H : (impl_Lock_raised.l0 k1 a2 y453 (t448.length : Int) (wrap64 (x13_1 + 1)) a0_0 a0_1) = some r := by first | (rw [hy453]; with_reducible exact H) | (have H2_ := (Option.bind_some _ _).symm.trans H; rw [hy453]; with_reducible exact H2_) | (have H2_ := (Option.bind_some _ _).symm.trans H; with_reducible exact H2_) | with_reducible exact H | (rw [hy453]; exact H) | exact H
  have Ny453 := Aside0.mk hy453
  clear hy453
  have H' := Aside0.mk H
  clear H
  try go_wp2
  have n0_ := Aside0.mk (r_e HO_7.out)
  have n1_ := Aside0.mk (g_e BK447.out)
  have n2_ := Aside0.mk (b_e HB.out)
  clear HO_7
  clear BK447
  clear HB
  have HO_7 := n0_
  have BK447 := n1_
  have HB := n2_
  clear n0_ n1_ n2_
  have p451 : 0 ≤ (x13_1 : Int) := of_decide_eq_true (by first | (with_reducible assumption) | assumption)
  have q451 : x13_1 < (x7_1.length : Int) := of_decide_eq_true (by first | (with_reducible assumption) | assumption)
  obtain ⟨ad451, e451, hx451_0⟩ := Kd.at_int (Kd.R_reads' HO_7.out).2.2 x13_1 p451 q451
  cases e451
  replace p451 := eq_true p451
  replace q451 := eq_true q451
  refine start_ (n := 13) (S := fun w' => w'.cell? ⟨gb447, 0, none⟩ = some (.int .i64 a0_0) ∧ w'.cell? ⟨gb447, 1, none⟩ = some (.int .i64 a0_1) ∧ w'.cell? (ad451.add (x13_1).toNat) = some (.int .i64 (rd x7_1 x13_1))) (ds := [12]) (bs_ 13 0) (by kernel_rfl) rfl rfl ⟨(blk_cell BK447.out 0).trans rfl, (blk_cell BK447.out 1).trans rfl, hx451_0⟩ (fun hHeld => ?_); refine with_tabW impl_Lock_raised.tab5 impl_Lock_raised.bits5 (fun HT_ HW_ => ?_)
  generalize wr.drew = w13 at HO_7 BK447 HB hx451_0 hHeld ⊢
  refine pua 0 16 (bs_ 13 1) HT_ ?_
  refine pua 1 17 (bs_ 13 3) HT_ ?_
  refine pua 2 18 (bs_ 13 7) HT_ ?_
  refine pua 3 19 (bs_ 13 15) HT_ ?_
  refine pua 4 20 (bs_ 13 31) HT_ ?_
  refine pua 6 22 (bs_ 13 95) HT_ ?_
  refine pua 8 24 (bs_ 13 351) HT_ ?_
  refine tk_ 5 21 (bs_ 13 383) rfl rfl HT_ HW_ (by kernel_rfl) (fun _ _ _ h => h) (by rfl) hHeld (by rintro w' ⟨s0, s1, s2⟩; go_simp; with_reducible rfl) (by simp only [Act.put, s_1, s_2, s_3, i64_w, i32_w]; rfl) ?_
  refine pua 7 23 (bs_ 13 511) HT_ ?_
  refine tk_ 9 25 (bs_ 13 1023) rfl rfl HT_ HW_ (by kernel_rfl) (fun _ _ _ h => h) (by rfl) hHeld (by rintro w' ⟨s0, s1, s2⟩; go_simp; with_reducible rfl) (by simp only [Act.put, s_1, s_2, s_3, i64_w, i32_w]; rfl) ?_
  refine one_ (i := 10) (N := some 26) (bs_ 13 2047) rfl rfl (one_of HT_.out (by kernel_rfl)) (by decide) (fun K hK => ?_)
  refine goes_ Try.func62 (by kernel_rfl) rfl #[.int .i64 (wrap64 ((rd x7_1 x13_1) + a2)), .int .i64 a0_1] (by rfl) rfl rfl (by (try simp only [m_1, m_2, m_3]); first | done | rfl | (simp only [m_4, m_5]; rfl)) ?_
  with_reducible refine (impl_around.calls (wrap64 ((rd x7_1 x13_1) + a2)) a0_1 t452 _ A11.out).mono ?_
  rintro e w' ⟨rfl, ⟨nd, rfl⟩⟩
  refine ⟨_, rfl, ?_⟩
  have p12 : 0 ≤ (x13_1 : Int) := of_decide_eq_true (by first | (with_reducible assumption) | assumption)
  have q12 : (x13_1 : Int) < ((x7_1.length : Int) : Int) := of_decide_eq_true (by first | (with_reducible assumption) | assumption)
  obtain ⟨go12, co12, eo12, gb12, gl12, cl12, HG12⟩ := Kd.R_form HO_7.out (by omega)
  (first | cases eo12 | (injection eo12 with ea_ en_ ec_; (first | subst ea_ | (injection ea_ with ea_; subst ea_)); subst ec_; clear en_))
  have GB12 := Aside0.mk gb12
  have GG12 := Aside0.mk HG12
  clear gb12 gl12 HG12
  (first | simp only [add_plain] at hx451_0 | skip)
  obtain ⟨hx12_0, hf12_0⟩ := Kd.R_celln 0 HO_7.out (x13_1 : Int) p12 q12
  replace p12 := eq_true p12
  replace q12 := eq_true q12
  have HP14 := Kd.R_putn HO_7.out (x13_1 : Int) t452
  rw [← Ny453.out] at HP14
  have HQ14 := Aside0.mk HP14
  clear HP14
  refine hK.out _ _ ⟨(blk_cell BK447.out 0).trans rfl, (blk_cell BK447.out 1).trans rfl, hHeld.2.2⟩ (fun hHeld => ?_)
  clear hK K
  refine norm_ (a' := ?_) ?_ ?_
  rotate_left
  · show Act.put _ (some 26) _ = _
    simp only [Act.put, s_1, s_2, s_3, i64_w, i32_w]
    rfl
  refine pua 11 27 (bs_ 13 4095) HT_ ?_
  refine last_ (i := 12) (N := none) (bs_ 13 8191) rfl rfl (one_of HT_.out (by kernel_rfl)) (by decide) (fun K hK => ?_)
  refine skip_ (w1 := ?_) (by rfl) rfl ?_ ?_
  rotate_left
  · go_simp
    rfl
  refine hK.out _ _ ?_
  clear hK K
  refine done_ (done_of HT_.out (by kernel_rfl)) ?_
  try go_wp2
  (try simp only [← hl7_1])
  go_roundg k1
  case measure => have := HK1.out; omega
  case rel => exact ⟨(y453), (wrap64 (x13_1 + 1)), (by first | rfl | (simp; done) | (simp [*]; done)), H', ⟨by have := HK1.out; omega⟩, ⟨by (try simp only [hl7_1]); (with_reducible repeat (first | apply r_a | apply r_d | apply r_e)); exact HQ14.out⟩, ⟨by (try simp only [hl7_1]); (with_reducible repeat (first | refine g_d ?_ _ | refine g_e ?_ | refine g_a ?_ _)); refine blk_far ?_ (by have h_ := Kd.R_ne HO_7.out BK447.out (by decide); intro e_; exact h_ (by rw [e_]; rfl)) _; (with_reducible repeat (first | refine g_d ?_ _ | refine g_e ?_ | refine g_a ?_ _)); exact BK447.out⟩, ⟨by repeat (first | (with_reducible first | exact HB.out | apply b_a | apply b_d | apply b_e | refine b_s ?_ GB12.out | refine b_s ?_ GE447.out) | exact HB.out)⟩⟩
/-! ### impl_RaisedRing: function 21 -/
def impl_RaisedRing.f (k : Nat) (a0_0 : Int) (a0_1 : Int) (a1 : ByteArray) (a2 : Int) : Option (ByteArray × Bool) := (impl_isRing.f k a0_0 a0_1 a1).bind fun t456 => (if t456 = true then ((impl_within.f a2 0 (wrap64 (a0_1 - 1))).bind fun t457 => (if t457 = true then ((impl_Lock_raised.f k a0_0 a0_1 a1 a2).bind fun t458 => (some (t458, true))) else (some ((⟨#[]⟩ : ByteArray), false)))) else (some ((⟨#[]⟩ : ByteArray), false)))
theorem impl_RaisedRing.mono : ∀ a0 a1 a2 a3 k, LeO (impl_RaisedRing.f k a0 a1 a2 a3) (impl_RaisedRing.f (k + 1) a0 a1 a2 a3) := by
  intro a0 a1 a2 a3 k
  unfold impl_RaisedRing.f
  repeat' first
      | (with_reducible exact impl_Lock_raised.mono _ _ _ _ _)
      | (with_reducible exact impl_isRing.mono _ _ _ _)
      | (with_reducible exact LeO.refl _)
      | (with_reducible exact LeO.none _)
      | (with_reducible refine LeO.ite ?_ ?_)
      | (with_reducible refine LeO.bind ?_ (fun _ => ?_))
      | exact impl_Lock_raised.mono _ _ _ _ _
      | exact impl_isRing.mono _ _ _ _
      | exact LeO.none _
      | refine LeO.ite ?_ ?_
      | refine LeO.bind ?_ (fun _ => ?_)
set_option maxHeartbeats 8000000 in
set_option maxRecDepth 100000 in
theorem impl_RaisedRing.calls (k : Nat) (a0_0 : Int) (a0_1 : Int) (a1 : ByteArray) (a2 : Int) (r1 : ByteArray) (r2 : Bool) (w : World) (h : impl_RaisedRing.f k a0_0 a0_1 a1 a2 = some (r1, r2)) :
    Calls Try.prog 21 #[.agg #[.int .i64 a0_0, .int .i64 a0_1], .string a1, .int .i64 a2] w fun e w' => e = .returned (.tuple #[.string r1, .bool r2]) ∧ Below w.heap.size w w' := by
  have hu26 := Try.underlying26
  have HB := Aside0.mk (Below.refl w.heap.size w)
  have H : ((impl_isRing.f k a0_0 a0_1 a1).bind fun t456 => (if t456 = true then ((impl_within.f a2 0 (wrap64 (a0_1 - 1))).bind fun t457 => (if t457 = true then ((impl_Lock_raised.f k a0_0 a0_1 a1 a2).bind fun t458 => (some (t458, true))) else (some ((⟨#[]⟩ : ByteArray), false)))) else (some ((⟨#[]⟩ : ByteArray), false)))) = some (r1, r2) := h
  clear h
  replace H := Option.bind_eq_some_iff.mp H
  obtain ⟨t456, A40, H⟩ := H
  try dsimp only at H
  have A4 := Aside0.mk A40
  clear A40
  by_cases c5 : t456 = true
  rotate_left
  · replace c5 := Bool.eq_false_iff.mpr c5
    subst c5
    rw [if_neg (show ¬ (false = true) by decide)] at H
    simp only [Option.some.injEq, Prod.mk.injEq] at H
    obtain ⟨rfl, rfl⟩ := H
    go_enter Try.func21, Try.ntmps21
    go_wp2_with (first | ((with_reducible refine gate_dst (N := 3) rfl ?_); refine box_event ?hg (N := 3) ?hd (cs := #[.int .i64 a0_0, .int .i64 a0_1]) (t := 26) ?hr ?_; (case hd => rfl); (case hg => rfl); (case hr => first | (go_simp; done) | (go_simp; rfl)); intro gb455 hg w18 hbox hb; have n0_ := bsx hb HB; have n1_ := Aside0.mk (hbox); have n2_ := gwx hg HB; have n3_ := n2_; clear HB; have HB := n0_; have BK455 := n1_; have GW455 := n2_; have GE455 := n3_; clear n0_ n1_ n2_ n3_; clear hb hbox hg; have hcz19_0 := cz0 BK455; have hcz19_1 := cz1 BK455; have hfz19_0 := blk_frozen BK455.out 0; have hfz19_1 := blk_frozen BK455.out 1) | ((with_reducible refine gate_callee (f := 33) rfl ?_); refine goesL_ (some 10) rfl rfl Try.func33 (by kernel_rfl) rfl #[.agg #[.int .i64 a0_0, .int .i64 a0_1], .string a1] rfl (by (try simp only [m_1, m_2, m_3]); first | done | rfl | (simp only [m_4, m_5]; rfl)) ?_; (with_reducible refine (impl_isRing.calls k a0_0 a0_1 a1 false _ A4.out).mono ?_); rintro e w20 ⟨rfl, hb⟩; refine ⟨_, rfl, ?_⟩; replace BK455 := bbx hb BK455; replace HB := bsx hb HB; skip; (try clear hb); (try clear hb2); (try clear hk); (try clear hi)))
    go_ret2
    exact ⟨by first | rfl | (simp [errW_none, errW_some] <;> rfl) | (simp [*, errW_none, errW_some] <;> rfl), bB HB⟩

  subst c5
  rw [if_pos rfl] at H
  replace H := Option.bind_eq_some_iff.mp H
  obtain ⟨t457, A60, H⟩ := H
  try dsimp only at H
  have A6 := Aside0.mk A60
  clear A60
  by_cases c7 : t457 = true
  rotate_left
  · replace c7 := Bool.eq_false_iff.mpr c7
    subst c7
    rw [if_neg (show ¬ (false = true) by decide)] at H
    simp only [Option.some.injEq, Prod.mk.injEq] at H
    obtain ⟨rfl, rfl⟩ := H
    go_enter Try.func21, Try.ntmps21
    go_wp2_with (first | ((with_reducible refine gate_dst (N := 3) rfl ?_); refine box_event ?hg (N := 3) ?hd (cs := #[.int .i64 a0_0, .int .i64 a0_1]) (t := 26) ?hr ?_; (case hd => rfl); (case hg => rfl); (case hr => first | (go_simp; done) | (go_simp; rfl)); intro gb455 hg w14 hbox hb; have n0_ := bsx hb HB; have n1_ := Aside0.mk (hbox); have n2_ := gwx hg HB; have n3_ := n2_; clear HB; have HB := n0_; have BK455 := n1_; have GW455 := n2_; have GE455 := n3_; clear n0_ n1_ n2_ n3_; clear hb hbox hg; have hcz15_0 := cz0 BK455; have hcz15_1 := cz1 BK455; have hfz15_0 := blk_frozen BK455.out 0; have hfz15_1 := blk_frozen BK455.out 1) | ((with_reducible refine gate_callee (f := 33) rfl ?_); refine goesL_ (some 10) rfl rfl Try.func33 (by kernel_rfl) rfl #[.agg #[.int .i64 a0_0, .int .i64 a0_1], .string a1] rfl (by (try simp only [m_1, m_2, m_3]); first | done | rfl | (simp only [m_4, m_5]; rfl)) ?_; (with_reducible refine (impl_isRing.calls k a0_0 a0_1 a1 true _ A4.out).mono ?_); rintro e w16 ⟨rfl, hb⟩; refine ⟨_, rfl, ?_⟩; replace BK455 := bbx hb BK455; replace HB := bsx hb HB; skip; (try clear hb); (try clear hb2); (try clear hk); (try clear hi); have hcz17_0 := cz0 BK455; have hcz17_1 := cz1 BK455; have hfz17_0 := blk_frozen BK455.out 0; have hfz17_1 := blk_frozen BK455.out 1) | (go_at_call 43; (with_reducible refine (impl_within.calls a2 0 (wrap64 (a0_1 - 1)) false _ A6.out).mono ?_); rintro e w' ⟨rfl, ⟨nd, rfl⟩⟩))
    go_ret2
    exact ⟨by first | rfl | (simp [errW_none, errW_some] <;> rfl) | (simp [*, errW_none, errW_some] <;> rfl), bB HB⟩
  subst c7
  rw [if_pos rfl] at H
  replace H := Option.bind_eq_some_iff.mp H
  obtain ⟨t458, A80, H⟩ := H
  try dsimp only at H
  have A8 := Aside0.mk A80
  clear A80
  simp only [Option.some.injEq, Prod.mk.injEq] at H
  obtain ⟨rfl, rfl⟩ := H
  go_enter Try.func21, Try.ntmps21
  go_wp2_with (first | ((with_reducible refine gate_dst (N := 3) rfl ?_); refine box_event ?hg (N := 3) ?hd (cs := #[.int .i64 a0_0, .int .i64 a0_1]) (t := 26) ?hr ?_; (case hd => rfl); (case hg => rfl); (case hr => first | (go_simp; done) | (go_simp; rfl)); intro gb455 hg w9 hbox hb; have n0_ := bsx hb HB; have n1_ := Aside0.mk (hbox); have n2_ := gwx hg HB; have n3_ := n2_; clear HB; have HB := n0_; have BK455 := n1_; have GW455 := n2_; have GE455 := n3_; clear n0_ n1_ n2_ n3_; clear hb hbox hg; have hcz10_0 := cz0 BK455; have hcz10_1 := cz1 BK455; have hfz10_0 := blk_frozen BK455.out 0; have hfz10_1 := blk_frozen BK455.out 1) | ((with_reducible refine gate_callee (f := 33) rfl ?_); refine goesL_ (some 10) rfl rfl Try.func33 (by kernel_rfl) rfl #[.agg #[.int .i64 a0_0, .int .i64 a0_1], .string a1] rfl (by (try simp only [m_1, m_2, m_3]); first | done | rfl | (simp only [m_4, m_5]; rfl)) ?_; (with_reducible refine (impl_isRing.calls k a0_0 a0_1 a1 true _ A4.out).mono ?_); rintro e w11 ⟨rfl, hb⟩; refine ⟨_, rfl, ?_⟩; replace BK455 := bbx hb BK455; replace HB := bsx hb HB; skip; (try clear hb); (try clear hb2); (try clear hk); (try clear hi); have hcz12_0 := cz0 BK455; have hcz12_1 := cz1 BK455; have hfz12_0 := blk_frozen BK455.out 0; have hfz12_1 := blk_frozen BK455.out 1) | (go_at_call 43; (with_reducible refine (impl_within.calls a2 0 (wrap64 (a0_1 - 1)) true _ A6.out).mono ?_); rintro e w' ⟨rfl, ⟨nd, rfl⟩⟩) | ((with_reducible refine gate_callee (f := 45) rfl ?_); refine goesL_ (some 23) rfl rfl Try.func45 (by kernel_rfl) rfl #[.agg #[.int .i64 a0_0, .int .i64 a0_1], .string a1, .int .i64 a2] rfl (by (try simp only [m_1, m_2, m_3]); first | done | rfl | (simp only [m_4, m_5]; rfl)) ?_; (with_reducible refine (impl_Lock_raised.calls k a0_0 a0_1 a1 a2 t458 _ A8.out).mono ?_); rintro e w13 ⟨rfl, hb⟩; refine ⟨_, rfl, ?_⟩; replace BK455 := bbx hb BK455; replace HB := bsx hb HB; skip; (try clear hb); (try clear hb2); (try clear hk); (try clear hi)))
  go_ret2
  exact ⟨by first | rfl | (simp [errW_none, errW_some] <;> rfl) | (simp [*, errW_none, errW_some] <;> rfl), bB HB⟩
end Go.Proofs.Ytmpcefcgboljkaa.P
