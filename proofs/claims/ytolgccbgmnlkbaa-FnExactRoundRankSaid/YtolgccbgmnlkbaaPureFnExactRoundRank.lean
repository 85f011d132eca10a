/- The plain statement behind the law FnExactRoundRank: whatever the input, the law's Lean function answers true. Conditions: none but the sizes that the row gives. -/
import Derived.Test.YtolgccbgmnlkbaaO
import Derived.Test.YtolgccbgmnlkbaaPx1
import Derived.Test.YtolgccbgmnlkbaaPx32
import Derived.Test.YtolgccbgmnlkbaaPx40
import Derived.Test.YtolgccbgmnlkbaaPx45
import Derived.Test.YtolgccbgmnlkbaaPx46
namespace Go.Proofs.Ytolgccbgmnlkbaa.Pure
open Go.RowKit Go.Proofs.Ytolgccbgmnlkbaa.P Go.Proofs.Ytolgccbgmnlkbaa.B Go.Proofs.Ytolgccbgmnlkbaa.C Go.Proofs.Ytolgccbgmnlkbaa.L Go.Proofs.Ytolgccbgmnlkbaa.A Go.Proofs.Ytolgccbgmnlkbaa.O Go.Proofs.YtolgccbgmnlkbaaW.PrintWords Go.Proofs.YtolgccbgmnlkbaaW.PrintLast Go.Proofs.YtolgccbgmnlkbaaW.PrintMore
set_option linter.unusedVariables false
set_option linter.unusedSimpArgs false

theorem has1 (W D : Int) (s : ByteArray) (hs : s.size ≤ 140737488351232) : Ev (fun k => impl_has.f k W D [s]) (decide (LK W D) && isC W D s) := by
  have := has_ev W D [s] (by simp) (by intro x hx; rw [List.mem_singleton.mp hx]; exact hs)
  simpa using this

theorem FnExactRoundRank : ∀ (a0_0 : Int) (a0_1 : Int) (a1 : ByteArray), (-9223372036854775808 ≤ a0_0 ∧ a0_0 ≤ 9223372036854775807) → (-9223372036854775808 ≤ a0_1 ∧ a0_1 ≤ 9223372036854775807) → a1.size ≤ 140737488351232 → ∃ k, laws_FnExactRoundRank.f k a0_0 a0_1 a1 = some true := by
  intro W D s _ _ hs
  refine ev_ex ?_
  unfold laws_FnExactRoundRank.f laws_toLock.f
  by_cases hb : (s.size : Int) > 1048576
  · simp only [if_pos hb]; exact Ev.now _
  simp only [if_neg hb, Option.bind_some]
  obtain ⟨r, h1, h2⟩ : ∃ r, Ev (fun k => spec_RoundRank.f k W D s) r ∧ Ev (fun k => impl_RoundRank.f k W D s) r := by
    by_cases h : LK W D ∧ isC W D s = true
    · refine ⟨_, specRoundRank_ev h.1 h.2, ?_⟩
      unfold impl_RoundRank.f
      refine Ev.bind (has1 W D s hs) ?_
      simp only [decide_eq_true h.1, h.2, Bool.and_self, if_true]
      exact Ev.bind (roundRank_ev h.1 h.2) (Ev.now _)
    · have e : (decide (LK W D) && isC W D s) = false := by
        rw [Bool.and_eq_false_iff]
        by_cases g : LK W D
        · right; rw [← Bool.not_eq_true]; exact fun q => h ⟨g, q⟩
        · left; exact decide_eq_false g
      refine ⟨(0, false), ?_, ?_⟩
      · unfold spec_RoundRank.f
        refine Ev.bind (whAsked_ev W D s hs) ?_
        simp only [e, Bool.false_eq_true, if_false]; exact Ev.now _
      · unfold impl_RoundRank.f
        refine Ev.bind (has1 W D s hs) ?_
        simp only [e, Bool.false_eq_true, if_false]; exact Ev.now _
  refine Ev.bind h1 (Ev.bind h2 ?_)
  simp only [if_true, bne_self_eq_false, Bool.false_eq_true, if_false]
  exact Ev.now _

end Go.Proofs.Ytolgccbgmnlkbaa.Pure
