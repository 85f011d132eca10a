/- The plain statement behind the law FnExactLeastRing: whatever the input, the law's Lean function answers true. Conditions: none but the sizes that the row gives. -/
import Derived.Test.YtblccaaahicneaaLR
import Derived.Test.YtblccaaahicneaaPx1
import Derived.Test.YtblccaaahicneaaPx9
import Derived.Test.YtblccaaahicneaaPx27
import Derived.Test.YtblccaaahicneaaPx28
namespace Go.Proofs.Ytblccaaahicneaa.Pure
open Go.RowKit Go.Proofs.Ytblccaaahicneaa.P Go.Proofs.Ytblccaaahicneaa.B Go.Proofs.Ytblccaaahicneaa.C Go.Proofs.Ytblccaaahicneaa.R Go.Proofs.Ytblccaaahicneaa.LR Go.Proofs.YtblccaaahicneaaW.PrintWords Go.Proofs.YtblccaaahicneaaW.PrintLast Go.Proofs.YtblccaaahicneaaW.PrintMore
set_option linter.unusedVariables false
set_option linter.unusedSimpArgs false

theorem leastRing_both (W D : Int) : ∃ r, Ev (fun k => spec_LeastRing.f k W D) r ∧ Ev (fun k => impl_LeastRing.f k W D) r := by
  unfold spec_LeastRing.f impl_LeastRing.f
  by_cases h : RK W D
  · obtain ⟨s, _, _, _, h1, h2⟩ := ring_ev h
    refine ⟨(s, true), Ev.bind (riGood_ev W D) ?_, Ev.bind (isRounded_ev W D) ?_⟩
    · simp only [decide_eq_true h, if_true]; exact Ev.bind h1 (Ev.now _)
    · simp only [decide_eq_true h, if_true]; exact Ev.bind h2 (Ev.now _)
  · refine ⟨(⟨#[]⟩, false), Ev.bind (riGood_ev W D) ?_, Ev.bind (isRounded_ev W D) ?_⟩
    · simp only [decide_eq_false h, Bool.false_eq_true, if_false]; exact Ev.now _
    · simp only [decide_eq_false h, Bool.false_eq_true, if_false]; exact Ev.now _
theorem FnExactLeastRing : ∀ (a0_0 : Int) (a0_1 : Int), (-9223372036854775808 ≤ a0_0 ∧ a0_0 ≤ 9223372036854775807) → (-9223372036854775808 ≤ a0_1 ∧ a0_1 ≤ 9223372036854775807) → ∃ k, laws_FnExactLeastRing.f k a0_0 a0_1 = some true := by
  intro W D _ _
  refine ev_ex ?_
  unfold laws_FnExactLeastRing.f laws_toLock.f
  simp only [Option.bind_some]
  obtain ⟨r, h1, h2⟩ := leastRing_both W D
  refine Ev.bind h1 (Ev.bind h2 ?_)
  simp only [if_true, bne_self_eq_false, Bool.false_eq_true, if_false]
  exact Ev.now _

end Go.Proofs.Ytblccaaahicneaa.Pure
