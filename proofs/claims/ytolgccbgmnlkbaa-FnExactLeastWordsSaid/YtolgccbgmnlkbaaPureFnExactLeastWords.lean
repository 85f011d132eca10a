/- The plain statement behind the law FnExactLeastWords: whatever the input, the law's Lean function answers true. Conditions: none but the sizes that the row gives. -/
import Derived.Test.YtolgccbgmnlkbaaLW
import Derived.Test.YtolgccbgmnlkbaaA
import Derived.Test.YtolgccbgmnlkbaaPx1
import Derived.Test.YtolgccbgmnlkbaaPx65
import Derived.Test.YtolgccbgmnlkbaaPx67
import Derived.Test.YtolgccbgmnlkbaaPx72
namespace Go.Proofs.Ytolgccbgmnlkbaa.Pure
open Go.RowKit Go.Proofs.Ytolgccbgmnlkbaa.P Go.Proofs.Ytolgccbgmnlkbaa.B Go.Proofs.Ytolgccbgmnlkbaa.C Go.Proofs.Ytolgccbgmnlkbaa.A Go.Proofs.Ytolgccbgmnlkbaa.R Go.Proofs.Ytolgccbgmnlkbaa.LW Go.Proofs.YtolgccbgmnlkbaaW.PrintWords Go.Proofs.YtolgccbgmnlkbaaW.PrintLast Go.Proofs.YtolgccbgmnlkbaaW.PrintMore
set_option linter.unusedVariables false
set_option linter.unusedSimpArgs false

theorem words_both (W D : Int) : ∃ (l : List ByteArray) (b : Bool), l.length ≤ 1000 ∧ Ev (fun k => spec_LeastWords.f k W D) (l, b) ∧ Ev (fun k => impl_LeastWords.f k W D) (l, b) := by
  unfold spec_LeastWords.f impl_LeastWords.f
  by_cases h : RK W D
  · obtain ⟨l, hl, h1, h2⟩ := words_ev h
    refine ⟨l, true, hl, Ev.bind (riGood_ev W D) ?_, Ev.bind (isRounded_ev W D) ?_⟩
    · simp only [decide_eq_true h, if_true]; exact Ev.bind h1 (Ev.now _)
    · simp only [decide_eq_true h, if_true]; exact Ev.bind h2 (Ev.now _)
  · refine ⟨[], false, by simp, Ev.bind (riGood_ev W D) ?_, Ev.bind (isRounded_ev W D) ?_⟩
    · simp only [decide_eq_false h, Bool.false_eq_true, if_false]; exact Ev.now _
    · simp only [decide_eq_false h, Bool.false_eq_true, if_false]; exact Ev.now _

theorem FnExactLeastWords : ∀ (a0_0 : Int) (a0_1 : Int), (-9223372036854775808 ≤ a0_0 ∧ a0_0 ≤ 9223372036854775807) → (-9223372036854775808 ≤ a0_1 ∧ a0_1 ≤ 9223372036854775807) → ∃ k, laws_FnExactLeastWords.f k a0_0 a0_1 = some true := by
  intro W D _ _
  refine ev_ex ?_
  obtain ⟨l, b, hl, h1, h2⟩ := words_both W D
  unfold laws_FnExactLeastWords.f
  simp only [laws_toLock.f, Option.bind_some]
  refine Ev.bind h1 (Ev.bind h2 (Ev.bind (eqStringS_ev l (by omega)) ?_))
  simp only [if_true, bne_self_eq_false]
  refine Ev.succ ?_
  simp only [laws_FnExactLeastWords.j0, Bool.false_eq_true, if_false]
  refine Ev.bind (marked l (by omega)) (Ev.bind (held l.length (by omega)) ?_)
  simp only [if_neg (show ¬ ((l.length : Int) + 1 < 0) by omega), if_true, laws_toLock.f, Option.bind_some]
  refine Ev.bind h2 (Ev.bind (eqStringS_ev l (by omega)) ?_)
  simp only [if_true, bne_self_eq_false]
  refine Ev.succ ?_
  simp only [laws_FnExactLeastWords.j1, Bool.false_eq_true, if_false]
  refine Ev.bind (held l.length (by omega)) ?_
  simp only [if_neg (show ¬ ((l.length : Int) + 1 < 0) by omega), if_true]
  exact Ev.now _

end Go.Proofs.Ytolgccbgmnlkbaa.Pure
