/- The plain statement behind the law FnExactForthCode: whatever the input, the law's Lean function answers true. Conditions: none but the sizes that the row gives. -/
import Derived.Test.YtolgccbgmnlkbaaO
import Derived.Test.YtolgccbgmnlkbaaPx1
import Derived.Test.YtolgccbgmnlkbaaPx52
import Derived.Test.YtolgccbgmnlkbaaPx55
import Derived.Test.YtolgccbgmnlkbaaPx56
namespace Go.Proofs.Ytolgccbgmnlkbaa.Pure
open Go.RowKit Go.Proofs.Ytolgccbgmnlkbaa.P Go.Proofs.Ytolgccbgmnlkbaa.B Go.Proofs.Ytolgccbgmnlkbaa.C Go.Proofs.Ytolgccbgmnlkbaa.L Go.Proofs.Ytolgccbgmnlkbaa.A Go.Proofs.Ytolgccbgmnlkbaa.O Go.Proofs.YtolgccbgmnlkbaaW.PrintWords Go.Proofs.YtolgccbgmnlkbaaW.PrintLast Go.Proofs.YtolgccbgmnlkbaaW.PrintMore
set_option linter.unusedVariables false
set_option linter.unusedSimpArgs false

theorem FnExactForthCode : ∀ (a0_0 : Int) (a0_1 : Int) (a1 : Int), (-9223372036854775808 ≤ a0_0 ∧ a0_0 ≤ 9223372036854775807) → (-9223372036854775808 ≤ a0_1 ∧ a0_1 ≤ 9223372036854775807) → (-9223372036854775808 ≤ a1 ∧ a1 ≤ 9223372036854775807) → ∃ k, laws_FnExactForthCode.f k a0_0 a0_1 a1 = some true := by
  intro W D n _ _ _
  refine ev_ex ?_
  unfold laws_FnExactForthCode.f laws_toLock.f
  simp only [Option.bind_some]
  obtain ⟨r, h1, h2⟩ : ∃ r, Ev (fun k => spec_ForthCode.f k W D n) r ∧ Ev (fun k => impl_ForthCode.f k W D n) r := by
    unfold spec_ForthCode.f impl_ForthCode.f
    by_cases h : LK W D ∧ 0 ≤ n ∧ n < cnt W D
    · refine ⟨(txt (fi D W.toNat n), true), Ev.bind (orRank_ev W D n) ?_, Ev.bind (isRank_ev W D n) ?_⟩
      · simp only [decide_eq_true h, if_true]
        exact Ev.bind (orForth_ev h.1 h.2.1 h.2.2) (Ev.now _)
      · simp only [decide_eq_true h, if_true]
        exact Ev.bind (forth_ev h.1 h.2.1 h.2.2) (Ev.now _)
    · refine ⟨(⟨#[]⟩, false), Ev.bind (orRank_ev W D n) ?_, Ev.bind (isRank_ev W D n) ?_⟩
      · simp only [decide_eq_false h, Bool.false_eq_true, if_false]; exact Ev.now _
      · simp only [decide_eq_false h, Bool.false_eq_true, if_false]; exact Ev.now _
  refine Ev.bind h1 (Ev.bind h2 ?_)
  simp only [if_true, bne_self_eq_false, Bool.false_eq_true, if_false]
  exact Ev.now _

end Go.Proofs.Ytolgccbgmnlkbaa.Pure
