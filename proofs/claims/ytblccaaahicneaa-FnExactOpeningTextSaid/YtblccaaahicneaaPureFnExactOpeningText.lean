/- The plain statement behind the law FnExactOpeningText: whatever the input, the law's Lean function answers true. Conditions: none but the sizes that the row gives. -/
import Derived.Test.YtblccaaahicneaaLR
import Derived.Test.YtblccaaahicneaaPx1
import Derived.Test.YtblccaaahicneaaPx29
import Derived.Test.YtblccaaahicneaaPx30
import Derived.Test.YtblccaaahicneaaPx31
namespace Go.Proofs.Ytblccaaahicneaa.Pure
open Go.RowKit Go.Proofs.Ytblccaaahicneaa.P Go.Proofs.Ytblccaaahicneaa.B Go.Proofs.Ytblccaaahicneaa.C Go.Proofs.Ytblccaaahicneaa.R Go.Proofs.Ytblccaaahicneaa.RS Go.Proofs.Ytblccaaahicneaa.S Go.Proofs.Ytblccaaahicneaa.LR Go.Proofs.YtblccaaahicneaaW.PrintWords Go.Proofs.YtblccaaahicneaaW.PrintLast Go.Proofs.YtblccaaahicneaaW.PrintMore
set_option linter.unusedVariables false
set_option linter.unusedSimpArgs false

theorem opening_both (W D : Int) : ∃ r, Ev (fun k => spec_OpeningText.f k W D) r ∧ Ev (fun k => impl_OpeningText.f k W D) r := by
  unfold spec_OpeningText.f impl_OpeningText.f
  by_cases h : RK W D
  · obtain ⟨s, _, hz, _, h1, h2⟩ := ring_ev h
    have cb := cnt_bd h.1
    have bg := big h.1
    obtain ⟨w1, w2, _⟩ := h.1
    have hc := h.2
    have ez : (s.extract 0 (W - 1).toNat).size ≤ 1000 := by rw [ByteArray.size_extract]; omega
    refine ⟨(s ++ s.extract 0 (W - 1).toNat, true), Ev.bind (riGood_ev W D) ?_, Ev.bind (isRounded_ev W D) ?_⟩
    · simp only [decide_eq_true h, if_true]
      refine Ev.bind h1 ?_
      simp only [w64 (x := W - 1) (by omega) (by omega), if_pos (show 0 ≤ W - 1 by omega), if_pos (show W - 1 ≤ (s.size : Int) by omega), if_pos (show s.size + (s.extract 0 (W - 1).toNat).size ≤ 9223372036854775807 by omega)]
      exact Ev.now _
    · simp only [decide_eq_true h, if_true]
      refine Ev.bind h2 ?_
      simp only [w64 (x := W - 1) (by omega) (by omega), if_pos (show 0 ≤ W - 1 by omega), if_pos (show W - 1 ≤ (s.size : Int) by omega), if_pos (show s.size + (s.extract 0 (W - 1).toNat).size ≤ 9223372036854775807 by omega)]
      exact Ev.now _
  · refine ⟨(⟨#[]⟩, false), Ev.bind (riGood_ev W D) ?_, Ev.bind (isRounded_ev W D) ?_⟩
    · simp only [decide_eq_false h, Bool.false_eq_true, if_false]; exact Ev.now _
    · simp only [decide_eq_false h, Bool.false_eq_true, if_false]; exact Ev.now _
theorem FnExactOpeningText : ∀ (a0_0 : Int) (a0_1 : Int), (-9223372036854775808 ≤ a0_0 ∧ a0_0 ≤ 9223372036854775807) → (-9223372036854775808 ≤ a0_1 ∧ a0_1 ≤ 9223372036854775807) → ∃ k, laws_FnExactOpeningText.f k a0_0 a0_1 = some true := by
  intro W D _ _
  refine ev_ex ?_
  unfold laws_FnExactOpeningText.f laws_toLock.f
  simp only [Option.bind_some]
  obtain ⟨r, h1, h2⟩ := opening_both W D
  refine Ev.bind h1 (Ev.bind h2 ?_)
  simp only [if_true, bne_self_eq_false, Bool.false_eq_true, if_false]
  exact Ev.now _

end Go.Proofs.Ytblccaaahicneaa.Pure
