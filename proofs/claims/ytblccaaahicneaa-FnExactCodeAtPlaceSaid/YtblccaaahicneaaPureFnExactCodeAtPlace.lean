/- The plain statement behind the law FnExactCodeAtPlace: whatever the input, the law's Lean function answers true. Conditions: none but the sizes that the row gives. -/
import Derived.Test.YtblccaaahicneaaLR
import Derived.Test.YtblccaaahicneaaPx1
import Derived.Test.YtblccaaahicneaaPx40
import Derived.Test.YtblccaaahicneaaPx43
import Derived.Test.YtblccaaahicneaaPx44
namespace Go.Proofs.Ytblccaaahicneaa.Pure
open Go.RowKit Go.Proofs.Ytblccaaahicneaa.P Go.Proofs.Ytblccaaahicneaa.B Go.Proofs.Ytblccaaahicneaa.C Go.Proofs.Ytblccaaahicneaa.R Go.Proofs.Ytblccaaahicneaa.RS Go.Proofs.Ytblccaaahicneaa.S Go.Proofs.Ytblccaaahicneaa.LR Go.Proofs.YtblccaaahicneaaW.PrintWords Go.Proofs.YtblccaaahicneaaW.PrintLast Go.Proofs.YtblccaaahicneaaW.PrintMore
set_option linter.unusedVariables false
set_option linter.unusedSimpArgs false

theorem codeAt_both (W D n : Int) : ∃ r, Ev (fun k => spec_CodeAtPlace.f k W D n) r ∧ Ev (fun k => impl_CodeAtPlace.f k W D n) r := by
  unfold spec_CodeAtPlace.f impl_CodeAtPlace.f
  by_cases h : RK W D
  · obtain ⟨s, hT, hz, _, h1, h2⟩ := ring_ev h
    have cb := cnt_bd h.1
    have bg := big h.1
    obtain ⟨w1, w2, _⟩ := h.1
    have hc := h.2
    have az := arnd_size (s := s) (w := W.toNat) (by omega)
    have wl := wins_len W.toNat (arnd W.toNat s)
    by_cases q : 0 ≤ n ∧ n ≤ wrap64 (cnt W D - 1)
    · have q' := q
      rw [w64 (by omega) (by omega)] at q'
      refine ⟨(rdOf ByteArray.empty (wins W.toNat (arnd W.toNat s)) n, true), Ev.bind (riGood_ev W D) ?_, Ev.bind (isRounded_ev W D) ?_⟩
      · simp only [decide_eq_true h, if_true]
        refine Ev.bind (whCount_ev h.1) ?_
        simp only [l1In_eq, Option.bind_some, decide_eq_true q, Bool.not_true]
        refine Ev.succ ?_
        simp only [spec_CodeAtPlace.j0, Bool.false_eq_true, if_false]
        refine Ev.bind h1 (Ev.bind (riCodesAround_ev h.1 s (by omega) (by omega)) ?_)
        simp only [if_pos q'.1, if_pos (show n < ((wins W.toNat (arnd W.toNat s)).length : Int) by omega)]
        exact Ev.now _
      · simp only [decide_eq_true h, if_true]
        refine Ev.bind (count_ev h.1) ?_
        simp only [within_eq, Option.bind_some, decide_eq_true q, Bool.not_true]
        refine Ev.succ ?_
        simp only [impl_CodeAtPlace.j0, Bool.false_eq_true, if_false]
        refine Ev.bind h2 (Ev.bind (rounded_ev h.1 s (by omega) (by omega)) ?_)
        simp only [if_pos q'.1, if_pos (show n < ((wins W.toNat (arnd W.toNat s)).length : Int) by omega)]
        exact Ev.now _
    · refine ⟨(⟨#[]⟩, false), Ev.bind (riGood_ev W D) ?_, Ev.bind (isRounded_ev W D) ?_⟩
      · simp only [decide_eq_true h, if_true]
        refine Ev.bind (whCount_ev h.1) ?_
        simp only [l1In_eq, Option.bind_some, decide_eq_false q, Bool.not_false]
        refine Ev.succ ?_
        simp only [spec_CodeAtPlace.j0, if_true]
        exact Ev.now _
      · simp only [decide_eq_true h, if_true]
        refine Ev.bind (count_ev h.1) ?_
        simp only [within_eq, Option.bind_some, decide_eq_false q, Bool.not_false]
        refine Ev.succ ?_
        simp only [impl_CodeAtPlace.j0, if_true]
        exact Ev.now _
  · refine ⟨(⟨#[]⟩, false), Ev.bind (riGood_ev W D) ?_, Ev.bind (isRounded_ev W D) ?_⟩
    · simp only [decide_eq_false h, Bool.false_eq_true, if_false]
      refine Ev.succ ?_
      simp only [spec_CodeAtPlace.j0, if_true]; exact Ev.now _
    · simp only [decide_eq_false h, Bool.false_eq_true, if_false]
      refine Ev.succ ?_
      simp only [impl_CodeAtPlace.j0, if_true]; exact Ev.now _
theorem FnExactCodeAtPlace : ∀ (a0_0 : Int) (a0_1 : Int) (a1 : Int), (-9223372036854775808 ≤ a0_0 ∧ a0_0 ≤ 9223372036854775807) → (-9223372036854775808 ≤ a0_1 ∧ a0_1 ≤ 9223372036854775807) → (-9223372036854775808 ≤ a1 ∧ a1 ≤ 9223372036854775807) → ∃ k, laws_FnExactCodeAtPlace.f k a0_0 a0_1 a1 = some true := by
  intro W D n _ _ _
  refine ev_ex ?_
  unfold laws_FnExactCodeAtPlace.f laws_toLock.f
  simp only [Option.bind_some]
  obtain ⟨r, h1, h2⟩ := codeAt_both W D n
  refine Ev.bind h1 (Ev.bind h2 ?_)
  simp only [if_true, bne_self_eq_false, Bool.false_eq_true, if_false]
  exact Ev.now _

end Go.Proofs.Ytblccaaahicneaa.Pure
