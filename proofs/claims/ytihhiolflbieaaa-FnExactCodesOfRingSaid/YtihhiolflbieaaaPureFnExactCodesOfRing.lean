/- The plain statement behind the law FnExactCodesOfRing: whatever the input, the law's Lean function answers true. Conditions: none but the sizes that the row gives. -/
import Derived.Test.YtihhiolflbieaaaSR
import Derived.Test.YtihhiolflbieaaaPx2
import Derived.Test.YtihhiolflbieaaaPx96
import Derived.Test.YtihhiolflbieaaaPx124
import Derived.Test.YtihhiolflbieaaaPx126
namespace Go.Proofs.Ytihhiolflbieaaa.Pure
open Go.RowKit Go.Proofs.Ytihhiolflbieaaa.P Go.Proofs.Ytihhiolflbieaaa.B Go.Proofs.Ytihhiolflbieaaa.C Go.Proofs.Ytihhiolflbieaaa.L Go.Proofs.Ytihhiolflbieaaa.A Go.Proofs.Ytihhiolflbieaaa.O Go.Proofs.Ytihhiolflbieaaa.O2 Go.Proofs.Ytihhiolflbieaaa.R Go.Proofs.Ytihhiolflbieaaa.RS Go.Proofs.Ytihhiolflbieaaa.S Go.Proofs.Ytihhiolflbieaaa.SR Go.Proofs.YtihhiolflbieaaaW.PrintWords Go.Proofs.YtihhiolflbieaaaW.PrintLast Go.Proofs.YtihhiolflbieaaaW.PrintMore
set_option linter.unusedVariables false
set_option linter.unusedSimpArgs false

theorem codes_both (W D : Int) (s : ByteArray) : ∃ (l : List ByteArray) (b : Bool), l.length ≤ 1000000 ∧ Ev (fun k => spec_CodesOfRing.f k W D s) (l, b) ∧ Ev (fun k => impl_CodesOfRing.f k W D s) (l, b) := by
  unfold spec_CodesOfRing.f impl_CodesOfRing.f
  by_cases h : RK W D
  · have cb := cnt_bd h.1
    have bg := big h.1
    have hc := h.2
    by_cases g : ringB W D s = true
    · have z := ring_size g
      have az := arnd_size (s := s) (w := W.toNat) (by omega)
      have wl := wins_len W.toNat (arnd W.toNat s)
      refine ⟨wins W.toNat (arnd W.toNat s), true, by omega, Ev.bind (riGood_ev W D) ?_, Ev.bind (isRing_ev W D s) ?_⟩
      · simp only [decide_eq_true h, if_true]
        refine Ev.bind (riRing_ev h s) ?_
        simp only [g, if_true]
        exact Ev.bind (riCodesAround_ev h.1 s (by omega) (by omega)) (Ev.now _)
      · simp only [decide_eq_true h, g, Bool.and_self, if_true]
        exact Ev.bind (rounded_ev h.1 s (by omega) (by omega)) (Ev.now _)
    · rw [Bool.not_eq_true] at g
      refine ⟨[], false, by simp, Ev.bind (riGood_ev W D) ?_, Ev.bind (isRing_ev W D s) ?_⟩
      · simp only [decide_eq_true h, if_true]
        refine Ev.bind (riRing_ev h s) ?_
        simp only [g, Bool.false_eq_true, if_false]
        exact Ev.now _
      · simp only [g, Bool.and_false, Bool.false_eq_true, if_false]
        exact Ev.now _
  · refine ⟨[], false, by simp, Ev.bind (riGood_ev W D) ?_, Ev.bind (isRing_ev W D s) ?_⟩
    · simp only [decide_eq_false h, Bool.false_eq_true, if_false]; exact Ev.now _
    · simp only [decide_eq_false h, Bool.false_and, Bool.false_eq_true, if_false]; exact Ev.now _
theorem FnExactCodesOfRing : ∀ (a0_0 : Int) (a0_1 : Int) (a1 : ByteArray), (-9223372036854775808 ≤ a0_0 ∧ a0_0 ≤ 9223372036854775807) → (-9223372036854775808 ≤ a0_1 ∧ a0_1 ≤ 9223372036854775807) → a1.size ≤ 140737488351232 → ∃ k, laws_FnExactCodesOfRing.f k a0_0 a0_1 a1 = some true := by
  intro W D s _ _ hs
  refine ev_ex ?_
  obtain ⟨l, b, hl, h1, h2⟩ := codes_both W D s
  unfold laws_FnExactCodesOfRing.f
  by_cases hb : (s.size : Int) > 1048576
  · simp only [if_pos hb]; exact Ev.now _
  simp only [if_neg hb, laws_toLock.f, Option.bind_some]
  refine Ev.bind h1 (Ev.bind h2 (Ev.bind (eqStringS_ev l (by omega)) ?_))
  simp only [if_true, bne_self_eq_false]
  refine Ev.succ ?_
  simp only [laws_FnExactCodesOfRing.j0, Bool.false_eq_true, if_false]
  refine Ev.bind (marked l (by omega)) (Ev.bind (held l.length (by omega)) ?_)
  simp only [if_neg (show ¬ ((l.length : Int) + 1 < 0) by omega), if_true, laws_toLock.f, Option.bind_some]
  refine Ev.bind h2 (Ev.bind (eqStringS_ev l (by omega)) ?_)
  simp only [if_true, bne_self_eq_false]
  refine Ev.succ ?_
  simp only [laws_FnExactCodesOfRing.j1, Bool.false_eq_true, if_false]
  refine Ev.bind (held l.length (by omega)) ?_
  simp only [if_neg (show ¬ ((l.length : Int) + 1 < 0) by omega), if_true]
  exact Ev.now _
end Go.Proofs.Ytihhiolflbieaaa.Pure
