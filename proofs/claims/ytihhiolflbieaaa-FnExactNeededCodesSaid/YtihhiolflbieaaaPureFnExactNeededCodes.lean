/- The plain statement behind the law FnExactNeededCodes: whatever the input, the law's Lean function answers true. Conditions: none but the sizes that the row gives. -/
import Derived.Test.YtihhiolflbieaaaNcNE
import Derived.Test.YtihhiolflbieaaaPx2
import Derived.Test.YtihhiolflbieaaaPx172
namespace Go.Proofs.Ytihhiolflbieaaa.Pure
open Go.RowKit Go.Proofs.Ytihhiolflbieaaa.P Go.Proofs.Ytihhiolflbieaaa.B Go.Proofs.Ytihhiolflbieaaa.C Go.Proofs.Ytihhiolflbieaaa.L Go.Proofs.Ytihhiolflbieaaa.A Go.Proofs.Ytihhiolflbieaaa.O Go.Proofs.Ytihhiolflbieaaa.O2 Go.Proofs.Ytihhiolflbieaaa.R Go.Proofs.Ytihhiolflbieaaa.RS Go.Proofs.Ytihhiolflbieaaa.S Go.Proofs.Ytihhiolflbieaaa.D1 Go.Proofs.Ytihhiolflbieaaa.D2 Go.Proofs.Ytihhiolflbieaaa.NX Go.Proofs.Ytihhiolflbieaaa.DE Go.Proofs.Ytihhiolflbieaaa.NE Go.Proofs.YtihhiolflbieaaaW.PrintWords Go.Proofs.YtihhiolflbieaaaW.PrintLast Go.Proofs.YtihhiolflbieaaaW.PrintMore
set_option linter.unusedVariables false
set_option linter.unusedSimpArgs false

theorem FnExactNeededCodes : ∀ (a0_0 : Int) (a0_1 : Int) (l1 : List ByteArray) (a2 : ByteArray) (a3 : ByteArray), (-9223372036854775808 ≤ a0_0 ∧ a0_0 ≤ 9223372036854775807) → (-9223372036854775808 ≤ a0_1 ∧ a0_1 ≤ 9223372036854775807) → l1.length * 16 ≤ 140737488351232 → (∀ s ∈ l1, s.size ≤ 9223372036854775807) → a2.size ≤ 140737488351232 → a3.size ≤ 140737488351232 → ∃ k, laws_FnExactNeededCodes.f k a0_0 a0_1 l1 a2 a3 = some true := by
  intro W D l c d _ _ h1 h2 h3 h4
  refine ev_ex ?_
  unfold laws_FnExactNeededCodes.f
  by_cases hb : (c.size : Int) > 1048576
  · simp only [if_pos hb]; exact Ev.now _
  simp only [if_neg hb]
  by_cases hb2 : (d.size : Int) > 1048576
  · simp only [if_pos hb2]; exact Ev.now _
  simp only [if_neg hb2]
  obtain ⟨z, hz, hq⟩ := sz_ev l (by omega) h2
  refine Ev.bind hz ?_
  by_cases h0 : z < 0
  · simp only [if_pos h0]; exact Ev.now _
  simp only [if_neg h0, laws_toLock.f, Option.bind_some]
  obtain ⟨hl, hs⟩ := hq (by omega)
  obtain ⟨q1, q2⟩ := needed_both W D l c d (by omega) (fun s m => by have := hs s m; omega) h3 h4
  have hr := ndR_len W D l c d
  obtain ⟨⟨r, b⟩, hrb⟩ : ∃ p : List ByteArray × Bool, ndR W D l c d = p := ⟨_, rfl⟩
  rw [hrb] at q1 q2 hr
  replace hr : r.length ≤ 1000 := hr
  refine Ev.bind (toS_ev l (by omega)) (Ev.bind q1 (Ev.bind (toS_ev l (by omega)) (Ev.bind q2 (Ev.bind (eqStringS_ev r (by omega)) ?_))))
  simp only [if_true, bne_self_eq_false]
  refine Ev.succ ?_
  simp only [laws_FnExactNeededCodes.j0, Bool.false_eq_true, if_false]
  refine Ev.bind (toS_ev l (by omega)) (Ev.bind (eqStringS_ev l (by omega)) ?_)
  simp only [if_true]
  refine Ev.bind (marked l (by omega)) ?_
  simp only [if_neg (show ¬ ((l.length : Int) + 1 < 0) by omega)]
  refine Ev.bind (eqStringS_ev r (by omega)) ?_
  simp only [if_true, bne_self_eq_false]
  refine Ev.succ ?_
  simp only [laws_FnExactNeededCodes.j1, Bool.false_eq_true, if_false]
  refine Ev.bind (marked r (by omega)) (Ev.bind (held r.length (by omega)) ?_)
  simp only [if_neg (show ¬ ((r.length : Int) + 1 < 0) by omega), if_true, laws_toLock.f, Option.bind_some]
  refine Ev.bind (toS_ev l (by omega)) (Ev.bind q2 (Ev.bind (eqStringS_ev r (by omega)) ?_))
  simp only [if_true, bne_self_eq_false]
  refine Ev.succ ?_
  simp only [laws_FnExactNeededCodes.j2, Bool.false_eq_true, if_false]
  refine Ev.bind (held r.length (by omega)) ?_
  simp only [if_neg (show ¬ ((r.length : Int) + 1 < 0) by omega), if_true]
  exact Ev.now _
end Go.Proofs.Ytihhiolflbieaaa.Pure
