/- The plain statement behind the law FnExactFirstMissed: whatever the input, the law's Lean function answers true. Conditions: none but the sizes that the row gives. -/
import Derived.Test.YtblccaaahicneaaRF
import Derived.Test.YtblccaaahicneaaPx1
import Derived.Test.YtblccaaahicneaaPx70
namespace Go.Proofs.Ytblccaaahicneaa.Pure
open Go.RowKit Go.Proofs.Ytblccaaahicneaa.P Go.Proofs.Ytblccaaahicneaa.B Go.Proofs.Ytblccaaahicneaa.C Go.Proofs.Ytblccaaahicneaa.RF Go.Proofs.YtblccaaahicneaaW.PrintWords Go.Proofs.YtblccaaahicneaaW.PrintLast Go.Proofs.YtblccaaahicneaaW.PrintMore
set_option linter.unusedVariables false
set_option linter.unusedSimpArgs false

theorem FnExactFirstMissed : ∀ (a0_0 : Int) (a0_1 : Int) (a1 : ByteArray), (-9223372036854775808 ≤ a0_0 ∧ a0_0 ≤ 9223372036854775807) → (-9223372036854775808 ≤ a0_1 ∧ a0_1 ≤ 9223372036854775807) → a1.size ≤ 140737488351232 → ∃ k, laws_FnExactFirstMissed.f k a0_0 a0_1 a1 = some true := by
  intro W D s _ _ hs
  refine ev_ex ?_
  unfold laws_FnExactFirstMissed.f laws_toLock.f
  by_cases hb : (s.size : Int) > 1048576
  · simp only [if_pos hb]; exact Ev.now _
  simp only [if_neg hb, Option.bind_some]
  obtain ⟨r, h1, h2⟩ := missed_both W D s hs
  refine Ev.bind h1 (Ev.bind h2 ?_)
  simp only [if_true, bne_self_eq_false, Bool.false_eq_true, if_false]
  exact Ev.now _

end Go.Proofs.Ytblccaaahicneaa.Pure
