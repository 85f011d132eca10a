/- The plain statement behind the law FnExactTurnInForth: whatever the input, the law's Lean function answers true. Conditions: none but the sizes that the row gives. -/
import Derived.Test.YtolgccbgmnlkbaaO2
import Derived.Test.YtolgccbgmnlkbaaPx1
import Derived.Test.YtolgccbgmnlkbaaPx82
import Derived.Test.YtolgccbgmnlkbaaPx84
import Derived.Test.YtolgccbgmnlkbaaPx85
import Derived.Test.YtolgccbgmnlkbaaPx86
namespace Go.Proofs.Ytolgccbgmnlkbaa.Pure
open Go.RowKit Go.Proofs.Ytolgccbgmnlkbaa.P Go.Proofs.Ytolgccbgmnlkbaa.B Go.Proofs.Ytolgccbgmnlkbaa.C Go.Proofs.Ytolgccbgmnlkbaa.L Go.Proofs.Ytolgccbgmnlkbaa.A Go.Proofs.Ytolgccbgmnlkbaa.O Go.Proofs.Ytolgccbgmnlkbaa.O2 Go.Proofs.YtolgccbgmnlkbaaW.PrintWords Go.Proofs.YtolgccbgmnlkbaaW.PrintLast Go.Proofs.YtolgccbgmnlkbaaW.PrintMore
set_option linter.unusedVariables false
set_option linter.unusedSimpArgs false

theorem both (W D r : Int) (hr : -9223372036854775808 ≤ r ∧ r ≤ 9223372036854775807) : ∃ i e b, Ev (fun k => spec_TurnInForth.f k W D r) (i, e, b) ∧ Ev (fun k => impl_TurnInForth.f k W D r) (i, e, b) := by
  unfold spec_TurnInForth.f impl_TurnInForth.f
  by_cases h : LK W D ∧ 0 ≤ r ∧ r < cnt W D
  · have cb := cnt_bd h.1
    by_cases hn : r + 1 < cnt W D
    · obtain ⟨hw, hw6, hw0⟩ := LK.w h.1
      have hD0 : 0 < D := by have := LK.d h.1; omega
      obtain ⟨i, e, h1, h2⟩ := both_turn h.1 (fi_isD hD0 W.toNat r h.2.1 h.2.2) (fi_isD hD0 W.toNat (r + 1) (by omega) hn) (fi_len ..) (fi_len ..) (fi_next hD0 W.toNat r h.2.1 hn)
      refine ⟨i, e, true, Ev.bind (orRank_ev W D r) ?_, Ev.bind (isRank_ev W D r) ?_⟩
      · simp only [decide_eq_true h, if_true]
        refine Ev.bind (whCount_ev h.1) (Ev.succ ?_)
        rw [w64 (x := cnt W D - 1) (by omega) (by omega)]
        simp only [beq_false_of_ne (show r ≠ cnt W D - 1 by omega), spec_TurnInForth.j0, Bool.false_eq_true, if_false, w64 (x := r + 1) (by omega) (by omega)]
        exact Ev.bind (orForth_ev h.1 h.2.1 h.2.2) (Ev.bind (orForth_ev h.1 (r := r + 1) (by omega) hn) (Ev.bind h1 (Ev.now _)))
      · simp only [decide_eq_true h, if_true]
        refine Ev.bind (count_ev h.1) (Ev.succ ?_)
        rw [w64 (x := cnt W D - 1) (by omega) (by omega)]
        simp only [beq_false_of_ne (show r ≠ cnt W D - 1 by omega), impl_TurnInForth.j0, Bool.false_eq_true, if_false, w64 (x := r + 1) (by omega) (by omega)]
        exact Ev.bind (forth_ev h.1 h.2.1 h.2.2) (Ev.bind (forth_ev h.1 (r := r + 1) (by omega) hn) (Ev.bind h2 (Ev.now _)))
    · refine ⟨0, 0, false, Ev.bind (orRank_ev W D r) ?_, Ev.bind (isRank_ev W D r) ?_⟩
      · simp only [decide_eq_true h, if_true]
        refine Ev.bind (whCount_ev h.1) (Ev.succ ?_)
        rw [w64 (x := cnt W D - 1) (by omega) (by omega)]
        simp only [show r = cnt W D - 1 by omega, beq_self_eq_true, spec_TurnInForth.j0, if_true]
        exact Ev.now _
      · simp only [decide_eq_true h, if_true]
        refine Ev.bind (count_ev h.1) (Ev.succ ?_)
        rw [w64 (x := cnt W D - 1) (by omega) (by omega)]
        simp only [show r = cnt W D - 1 by omega, beq_self_eq_true, impl_TurnInForth.j0, if_true]
        exact Ev.now _
  · refine ⟨0, 0, false, Ev.bind (orRank_ev W D r) ?_, Ev.bind (isRank_ev W D r) ?_⟩
    · simp only [decide_eq_false h, Bool.false_eq_true, if_false]
      refine Ev.succ ?_
      simp only [spec_TurnInForth.j0, if_true]
      exact Ev.now _
    · simp only [decide_eq_false h, Bool.false_eq_true, if_false]
      refine Ev.succ ?_
      simp only [impl_TurnInForth.j0, if_true]
      exact Ev.now _

theorem FnExactTurnInForth : ∀ (a0_0 : Int) (a0_1 : Int) (a1 : Int), (-9223372036854775808 ≤ a0_0 ∧ a0_0 ≤ 9223372036854775807) → (-9223372036854775808 ≤ a0_1 ∧ a0_1 ≤ 9223372036854775807) → (-9223372036854775808 ≤ a1 ∧ a1 ≤ 9223372036854775807) → ∃ k, laws_FnExactTurnInForth.f k a0_0 a0_1 a1 = some true := by
  intro W D r _ _ hr
  refine ev_ex ?_
  obtain ⟨i, e, b, h1, h2⟩ := both W D r hr
  unfold laws_FnExactTurnInForth.f
  simp only [laws_toLock.f, Option.bind_some]
  refine Ev.bind h1 (Ev.bind h2 ?_)
  simp only [laws_eqTurn.f, if_true, Option.bind_some, bne_self_eq_false, Bool.false_eq_true, if_false]
  exact Ev.now _

end Go.Proofs.Ytolgccbgmnlkbaa.Pure
