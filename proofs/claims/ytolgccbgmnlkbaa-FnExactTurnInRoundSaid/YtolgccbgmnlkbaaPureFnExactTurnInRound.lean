/- The plain statement behind the law FnExactTurnInRound: whatever the input, the law's Lean function answers true. Conditions: none but the sizes that the row gives. -/
import Derived.Test.YtolgccbgmnlkbaaO3
import Derived.Test.YtolgccbgmnlkbaaPx1
import Derived.Test.YtolgccbgmnlkbaaPx77
import Derived.Test.YtolgccbgmnlkbaaPx81
import Derived.Test.YtolgccbgmnlkbaaPx82
import Derived.Test.YtolgccbgmnlkbaaPx83
namespace Go.Proofs.Ytolgccbgmnlkbaa.Pure
open Go.RowKit Go.Proofs.Ytolgccbgmnlkbaa.P Go.Proofs.Ytolgccbgmnlkbaa.B Go.Proofs.Ytolgccbgmnlkbaa.C Go.Proofs.Ytolgccbgmnlkbaa.L Go.Proofs.Ytolgccbgmnlkbaa.A Go.Proofs.Ytolgccbgmnlkbaa.O Go.Proofs.Ytolgccbgmnlkbaa.O2 Go.Proofs.Ytolgccbgmnlkbaa.O3 Go.Proofs.YtolgccbgmnlkbaaW.PrintWords Go.Proofs.YtolgccbgmnlkbaaW.PrintLast Go.Proofs.YtolgccbgmnlkbaaW.PrintMore
set_option linter.unusedVariables false
set_option linter.unusedSimpArgs false

theorem both (W D r : Int) : ∃ i e b, Ev (fun k => spec_TurnInRound.f k W D r) (i, e, b) ∧ Ev (fun k => impl_TurnInRound.f k W D r) (i, e, b) := by
  unfold spec_TurnInRound.f impl_TurnInRound.f
  by_cases h : LK W D ∧ 0 ≤ r ∧ r < cnt W D
  · have cb := cnt_bd h.1
    obtain ⟨hw, hw6, hw0⟩ := LK.w h.1
    have hD := LK.d h.1
    have hD0 : 0 < D := by omega
    have m0 := Int.emod_nonneg (r + 1) (b := cnt W D) (by omega)
    have m1 := Int.emod_lt_of_pos (r + 1) (b := cnt W D) (by omega)
    have em : Int.tmod (r + 1) (cnt W D) = (r + 1) % cnt W D := Int.tmod_eq_emod_of_nonneg (by omega)
    have nx : Nx D (df D 0 (cod D W.toNat r)) (df D 0 (cod D W.toNat ((r + 1) % cnt W D))) := N1.nx (by omega) (df_isD hD0 _ _) (round_next (by omega) W.toNat 0 r hw0 h.2.1 h.2.2)
    obtain ⟨i, e, h1, h2⟩ := both_turn h.1 (df_isD hD0 _ _) (df_isD hD0 _ _) ((df_len _ _ _).trans (cod_len _ _ _)) ((df_len _ _ _).trans (cod_len _ _ _)) nx
    refine ⟨i, e, true, Ev.bind (orRank_ev W D r) ?_, Ev.bind (isRank_ev W D r) ?_⟩
    · simp only [decide_eq_true h, if_true]
      refine Ev.bind (orRound_ev h.1 h.2.1 (by omega)) (Ev.bind (whCount_ev h.1) ?_)
      simp only [if_neg (show ¬ cnt W D = 0 by omega), w64 (x := r + 1) (by omega) (by omega), em]
      exact Ev.bind (orRound_ev h.1 m0 (by omega)) (Ev.bind h1 (Ev.now _))
    · simp only [decide_eq_true h, if_true]
      refine Ev.bind (round_ev h.1 h.2.1 (by omega)) (Ev.bind (count_ev h.1) ?_)
      simp only [if_neg (show ¬ cnt W D = 0 by omega), w64 (x := r + 1) (by omega) (by omega), em]
      exact Ev.bind (round_ev h.1 m0 (by omega)) (Ev.bind h2 (Ev.now _))
  · refine ⟨0, 0, false, Ev.bind (orRank_ev W D r) ?_, Ev.bind (isRank_ev W D r) ?_⟩
    · simp only [decide_eq_false h, Bool.false_eq_true, if_false]; exact Ev.now _
    · simp only [decide_eq_false h, Bool.false_eq_true, if_false]; exact Ev.now _

theorem FnExactTurnInRound : ∀ (a0_0 : Int) (a0_1 : Int) (a1 : Int), (-9223372036854775808 ≤ a0_0 ∧ a0_0 ≤ 9223372036854775807) → (-9223372036854775808 ≤ a0_1 ∧ a0_1 ≤ 9223372036854775807) → (-9223372036854775808 ≤ a1 ∧ a1 ≤ 9223372036854775807) → ∃ k, laws_FnExactTurnInRound.f k a0_0 a0_1 a1 = some true := by
  intro W D r _ _ hr
  refine ev_ex ?_
  obtain ⟨i, e, b, h1, h2⟩ := both W D r
  unfold laws_FnExactTurnInRound.f
  simp only [laws_toLock.f, Option.bind_some]
  refine Ev.bind h1 (Ev.bind h2 ?_)
  simp only [laws_eqTurn.f, if_true, Option.bind_some, bne_self_eq_false, Bool.false_eq_true, if_false]
  exact Ev.now _

end Go.Proofs.Ytolgccbgmnlkbaa.Pure
