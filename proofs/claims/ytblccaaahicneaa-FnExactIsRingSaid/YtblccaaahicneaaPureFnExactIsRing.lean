/- The plain statement behind the law FnExactIsRing: whatever the input, the law's Lean function answers true. Conditions: none but the sizes that the row gives. -/
import Derived.Test.YtblccaaahicneaaSR
import Derived.Test.YtblccaaahicneaaPx1
import Derived.Test.YtblccaaahicneaaPx101
import Derived.Test.YtblccaaahicneaaPx103
import Derived.Test.YtblccaaahicneaaPx104
namespace Go.Proofs.Ytblccaaahicneaa.Pure
open Go.RowKit Go.Proofs.Ytblccaaahicneaa.P Go.Proofs.Ytblccaaahicneaa.B Go.Proofs.Ytblccaaahicneaa.C Go.Proofs.Ytblccaaahicneaa.A Go.Proofs.Ytblccaaahicneaa.R Go.Proofs.Ytblccaaahicneaa.RS Go.Proofs.Ytblccaaahicneaa.S Go.Proofs.Ytblccaaahicneaa.SR Go.Proofs.YtblccaaahicneaaW.PrintWords Go.Proofs.YtblccaaahicneaaW.PrintLast Go.Proofs.YtblccaaahicneaaW.PrintMore
set_option linter.unusedVariables false
set_option linter.unusedSimpArgs false

theorem isRing_both (W D : Int) (s : ByteArray) : ∃ r, Ev (fun k => spec_IsRing.f k W D s) r ∧ Ev (fun k => impl_IsRing.f k W D s) r := by
  unfold spec_IsRing.f impl_IsRing.f
  by_cases h : RK W D
  · refine ⟨(ringB W D s, true), Ev.bind (riGood_ev W D) ?_, Ev.bind (isRounded_ev W D) ?_⟩
    · simp only [decide_eq_true h, if_true]
      exact Ev.bind (riRing_ev h s) (Ev.now _)
    · simp only [decide_eq_true h, if_true]
      have := isRing_ev W D s
      rw [decide_eq_true h, Bool.true_and] at this
      exact Ev.bind this (Ev.now _)
  · refine ⟨(false, false), Ev.bind (riGood_ev W D) ?_, Ev.bind (isRounded_ev W D) ?_⟩
    · simp only [decide_eq_false h, Bool.false_eq_true, if_false]; exact Ev.now _
    · simp only [decide_eq_false h, Bool.false_eq_true, if_false]; exact Ev.now _
theorem FnExactIsRing : ∀ (a0_0 : Int) (a0_1 : Int) (a1 : ByteArray), (-9223372036854775808 ≤ a0_0 ∧ a0_0 ≤ 9223372036854775807) → (-9223372036854775808 ≤ a0_1 ∧ a0_1 ≤ 9223372036854775807) → a1.size ≤ 140737488351232 → ∃ k, laws_FnExactIsRing.f k a0_0 a0_1 a1 = some true := by
  intro W D s _ _ hs
  refine ev_ex ?_
  unfold laws_FnExactIsRing.f laws_toLock.f
  by_cases hb : (s.size : Int) > 1048576
  · simp only [if_pos hb]; exact Ev.now _
  simp only [if_neg hb, Option.bind_some]
  obtain ⟨r, h1, h2⟩ := isRing_both W D s
  refine Ev.bind h1 (Ev.bind h2 ?_)
  simp only [bne_self_eq_false, Bool.false_eq_true, if_false]
  exact Ev.now _

end Go.Proofs.Ytblccaaahicneaa.Pure
