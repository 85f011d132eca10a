/- The plain statement behind the law FnExactTurnedRing: whatever the input, the law's Lean function answers true. Conditions: none but the sizes that the row gives. -/
import Derived.Test.YtblccaaahicneaaSR
import Derived.Test.YtblccaaahicneaaPx1
import Derived.Test.YtblccaaahicneaaPx105
import Derived.Test.YtblccaaahicneaaPx106
import Derived.Test.YtblccaaahicneaaPx107
namespace Go.Proofs.Ytblccaaahicneaa.Pure
open Go.RowKit Go.Proofs.Ytblccaaahicneaa.P Go.Proofs.Ytblccaaahicneaa.B Go.Proofs.Ytblccaaahicneaa.C Go.Proofs.Ytblccaaahicneaa.A Go.Proofs.Ytblccaaahicneaa.R Go.Proofs.Ytblccaaahicneaa.RS Go.Proofs.Ytblccaaahicneaa.S Go.Proofs.Ytblccaaahicneaa.SR Go.Proofs.YtblccaaahicneaaW.PrintWords Go.Proofs.YtblccaaahicneaaW.PrintLast Go.Proofs.YtblccaaahicneaaW.PrintMore
set_option linter.unusedVariables false
set_option linter.unusedSimpArgs false

theorem turnedRing_both (W D : Int) (s : ByteArray) (n : Int) : ∃ r, Ev (fun k => spec_TurnedRing.f k W D s n) r ∧ Ev (fun k => impl_TurnedRing.f k W D s n) r := by
  unfold spec_TurnedRing.f impl_TurnedRing.f
  have im := isRing_ev W D s
  by_cases h : RK W D
  · rw [decide_eq_true h, Bool.true_and] at im
    by_cases g : ringB W D s = true
    · have z := ring_size g
      have cb := cnt_bd h.1
      simp only [l1In_eq, within_eq, Option.bind_some]
      by_cases q : 0 ≤ n ∧ n ≤ wrap64 ((s.size : Int) - 1)
      · have q' := q
        rw [w64 (by omega) (by omega)] at q'
        have c : (s.extract n.toNat s.size).size + (s.extract 0 n.toNat).size ≤ 9223372036854775807 := by
          rw [ByteArray.size_extract, ByteArray.size_extract]; omega
        refine ⟨(s.extract n.toNat s.size ++ s.extract 0 n.toNat, true), Ev.bind (riGood_ev W D) ?_, Ev.bind im ?_⟩
        · simp only [decide_eq_true h, if_true]
          refine Ev.bind (riRing_ev h s) ?_
          simp only [g, if_true, decide_eq_true q, if_pos q'.1, if_pos (show n ≤ (s.size : Int) by omega), if_pos c]
          exact Ev.now _
        · simp only [g, if_true, decide_eq_true q, if_pos q'.1, if_pos (show n ≤ (s.size : Int) by omega), if_pos c]
          exact Ev.now _
      · refine ⟨(⟨#[]⟩, false), Ev.bind (riGood_ev W D) ?_, Ev.bind im ?_⟩
        · simp only [decide_eq_true h, if_true]
          refine Ev.bind (riRing_ev h s) ?_
          simp only [g, if_true, decide_eq_false q, Bool.false_eq_true, if_false]
          exact Ev.now _
        · simp only [g, if_true, decide_eq_false q, Bool.false_eq_true, if_false]
          exact Ev.now _
    · rw [Bool.not_eq_true] at g
      refine ⟨(⟨#[]⟩, false), Ev.bind (riGood_ev W D) ?_, Ev.bind im ?_⟩
      · simp only [decide_eq_true h, if_true]
        refine Ev.bind (riRing_ev h s) ?_
        simp only [g, Bool.false_eq_true, if_false]
        exact Ev.now _
      · simp only [g, Bool.false_eq_true, if_false]
        exact Ev.now _
  · rw [decide_eq_false h, Bool.false_and] at im
    refine ⟨(⟨#[]⟩, false), Ev.bind (riGood_ev W D) ?_, Ev.bind im ?_⟩
    · simp only [decide_eq_false h, Bool.false_eq_true, if_false]; exact Ev.now _
    · simp only [Bool.false_eq_true, if_false]; exact Ev.now _
theorem FnExactTurnedRing : ∀ (a0_0 : Int) (a0_1 : Int) (a1 : ByteArray) (a2 : Int), (-9223372036854775808 ≤ a0_0 ∧ a0_0 ≤ 9223372036854775807) → (-9223372036854775808 ≤ a0_1 ∧ a0_1 ≤ 9223372036854775807) → a1.size ≤ 140737488351232 → (-9223372036854775808 ≤ a2 ∧ a2 ≤ 9223372036854775807) → ∃ k, laws_FnExactTurnedRing.f k a0_0 a0_1 a1 a2 = some true := by
  intro W D s n _ _ hs _
  refine ev_ex ?_
  unfold laws_FnExactTurnedRing.f laws_toLock.f
  by_cases hb : (s.size : Int) > 1048576
  · simp only [if_pos hb]; exact Ev.now _
  simp only [if_neg hb, Option.bind_some]
  obtain ⟨r, h1, h2⟩ := turnedRing_both W D s n
  refine Ev.bind h1 (Ev.bind h2 ?_)
  simp only [if_true, bne_self_eq_false, Bool.false_eq_true, if_false]
  exact Ev.now _

end Go.Proofs.Ytblccaaahicneaa.Pure
