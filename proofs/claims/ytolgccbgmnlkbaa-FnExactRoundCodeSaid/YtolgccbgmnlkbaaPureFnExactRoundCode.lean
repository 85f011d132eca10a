/- The plain statement behind the law FnExactRoundCode: whatever the input, the law's Lean function answers true. Conditions: none but the sizes that the row gives. -/
import Derived.Test.YtolgccbgmnlkbaaO3
import Derived.Test.YtolgccbgmnlkbaaPx1
import Derived.Test.YtolgccbgmnlkbaaPx59
import Derived.Test.YtolgccbgmnlkbaaPx62
import Derived.Test.YtolgccbgmnlkbaaPx63
namespace Go.Proofs.Ytolgccbgmnlkbaa.Pure
open Go.RowKit Go.Proofs.Ytolgccbgmnlkbaa.P Go.Proofs.Ytolgccbgmnlkbaa.B Go.Proofs.Ytolgccbgmnlkbaa.C Go.Proofs.Ytolgccbgmnlkbaa.L Go.Proofs.Ytolgccbgmnlkbaa.A Go.Proofs.Ytolgccbgmnlkbaa.O Go.Proofs.Ytolgccbgmnlkbaa.O3 Go.Proofs.YtolgccbgmnlkbaaW.PrintWords Go.Proofs.YtolgccbgmnlkbaaW.PrintLast Go.Proofs.YtolgccbgmnlkbaaW.PrintMore
set_option linter.unusedVariables false
set_option linter.unusedSimpArgs false

theorem FnExactRoundCode : ∀ (a0_0 : Int) (a0_1 : Int) (a1 : Int), (-9223372036854775808 ≤ a0_0 ∧ a0_0 ≤ 9223372036854775807) → (-9223372036854775808 ≤ a0_1 ∧ a0_1 ≤ 9223372036854775807) → (-9223372036854775808 ≤ a1 ∧ a1 ≤ 9223372036854775807) → ∃ k, laws_FnExactRoundCode.f k a0_0 a0_1 a1 = some true := by
  intro W D n _ _ _
  refine ev_ex ?_
  unfold laws_FnExactRoundCode.f laws_toLock.f
  simp only [Option.bind_some]
  obtain ⟨r, h1, h2⟩ : ∃ r, Ev (fun k => spec_RoundCode.f k W D n) r ∧ Ev (fun k => impl_RoundCode.f k W D n) r := by
    unfold spec_RoundCode.f impl_RoundCode.f
    by_cases h : LK W D ∧ 0 ≤ n ∧ n < cnt W D
    · have cb := cnt_bd h.1
      refine ⟨(txt (df D 0 (cod D W.toNat n)), true), Ev.bind (orRank_ev W D n) ?_, Ev.bind (isRank_ev W D n) ?_⟩
      · simp only [decide_eq_true h, if_true]
        exact Ev.bind (orRound_ev h.1 h.2.1 (by omega)) (Ev.now _)
      · simp only [decide_eq_true h, if_true]
        exact Ev.bind (round_ev h.1 h.2.1 (by omega)) (Ev.now _)
    · refine ⟨(⟨#[]⟩, false), Ev.bind (orRank_ev W D n) ?_, Ev.bind (isRank_ev W D n) ?_⟩
      · simp only [decide_eq_false h, Bool.false_eq_true, if_false]; exact Ev.now _
      · simp only [decide_eq_false h, Bool.false_eq_true, if_false]; exact Ev.now _
  refine Ev.bind h1 (Ev.bind h2 ?_)
  simp only [if_true, bne_self_eq_false, Bool.false_eq_true, if_false]
  exact Ev.now _

end Go.Proofs.Ytolgccbgmnlkbaa.Pure
