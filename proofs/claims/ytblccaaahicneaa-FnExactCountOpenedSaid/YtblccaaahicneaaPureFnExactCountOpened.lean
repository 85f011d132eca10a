/- The plain statement behind the law FnExactCountOpened: whatever the input, the law's Lean function answers true. Conditions: none but the sizes that the row gives. -/
import Derived.Test.YtblccaaahicneaaS
import Derived.Test.YtblccaaahicneaaRO
import Derived.Test.YtblccaaahicneaaPx1
import Derived.Test.YtblccaaahicneaaPx74
import Derived.Test.YtblccaaahicneaaPx97
import Derived.Test.YtblccaaahicneaaPx98
import Derived.Test.YtblccaaahicneaaPx99
namespace Go.Proofs.Ytblccaaahicneaa.Pure
open Go.RowKit Go.Proofs.Ytblccaaahicneaa.P Go.Proofs.Ytblccaaahicneaa.B Go.Proofs.Ytblccaaahicneaa.C Go.Proofs.Ytblccaaahicneaa.A Go.Proofs.Ytblccaaahicneaa.R Go.Proofs.Ytblccaaahicneaa.RS Go.Proofs.Ytblccaaahicneaa.RO Go.Proofs.Ytblccaaahicneaa.S Go.Proofs.YtblccaaahicneaaW.PrintWords Go.Proofs.YtblccaaahicneaaW.PrintLast Go.Proofs.YtblccaaahicneaaW.PrintMore
set_option linter.unusedVariables false
set_option linter.unusedSimpArgs false

theorem opened_both (W D : Int) (s : ByteArray) : ∃ r, Ev (fun k => spec_CountOpened.f k W D s) r ∧ Ev (fun k => impl_CountOpened.f k W D s) r := by
  unfold spec_CountOpened.f impl_CountOpened.f
  by_cases h : opB W D s = true
  · have h' := opB_iff.mp h
    have lk := h'.1.1
    have cb := cnt_bd lk
    have hlen := wins_len W.toNat s
    have hC := wins_isC lk.1 h'.2.2
    have sc := sorted_count lk _ hC
    refine ⟨(((impl_sorted.val (wins W.toNat s)).length : Int), true), Ev.bind (riAsked_ev W D s) ?_, Ev.bind (isOpening_ev W D s) ?_⟩
    · simp only [h, if_true]
      refine Ev.bind (riCodesOpen_ev ⟨lk.1, lk.2.1⟩ s (by omega)) (Ev.bind (riSeen_ev lk _ (by omega) hC) ?_)
      rw [sc]
      exact count_loop _ (by rw [tabl_len]; omega)
    · simp only [h, if_true]
      refine Ev.bind (met_ev ⟨lk.1, lk.2.1⟩ s (by omega)) ?_
      unfold impl_sorted.f
      simp only [if_pos (show (wins W.toNat s).length ≤ 1000000000 by omega), Option.bind_some]
      exact Ev.now _
  · rw [Bool.not_eq_true] at h
    refine ⟨(0, false), Ev.bind (riAsked_ev W D s) ?_, Ev.bind (isOpening_ev W D s) ?_⟩
    · simp only [h, Bool.false_eq_true, if_false]; exact Ev.now _
    · simp only [h, Bool.false_eq_true, if_false]; exact Ev.now _
theorem FnExactCountOpened : ∀ (a0_0 : Int) (a0_1 : Int) (a1 : ByteArray), (-9223372036854775808 ≤ a0_0 ∧ a0_0 ≤ 9223372036854775807) → (-9223372036854775808 ≤ a0_1 ∧ a0_1 ≤ 9223372036854775807) → a1.size ≤ 140737488351232 → ∃ k, laws_FnExactCountOpened.f k a0_0 a0_1 a1 = some true := by
  intro W D s _ _ hs
  refine ev_ex ?_
  unfold laws_FnExactCountOpened.f laws_toLock.f
  by_cases hb : (s.size : Int) > 1048576
  · simp only [if_pos hb]; exact Ev.now _
  simp only [if_neg hb, Option.bind_some]
  obtain ⟨r, h1, h2⟩ := opened_both W D s
  refine Ev.bind h1 (Ev.bind h2 ?_)
  simp only [if_true, bne_self_eq_false, Bool.false_eq_true, if_false]
  exact Ev.now _

end Go.Proofs.Ytblccaaahicneaa.Pure
