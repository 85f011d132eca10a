/- The plain statement behind the law FnExactRoundPart: whatever the input, the law's Lean function answers true. Conditions: none but the sizes that the row gives. -/
import Derived.Test.YtolgccbgmnlkbaaO3
import Derived.Test.YtolgccbgmnlkbaaPx1
import Derived.Test.YtolgccbgmnlkbaaPx87
import Derived.Test.YtolgccbgmnlkbaaPx88
import Derived.Test.YtolgccbgmnlkbaaPx89
namespace Go.Proofs.Ytolgccbgmnlkbaa.Pure
open Go.RowKit Go.Proofs.Ytolgccbgmnlkbaa.P Go.Proofs.Ytolgccbgmnlkbaa.B Go.Proofs.Ytolgccbgmnlkbaa.C Go.Proofs.Ytolgccbgmnlkbaa.L Go.Proofs.Ytolgccbgmnlkbaa.A Go.Proofs.Ytolgccbgmnlkbaa.O Go.Proofs.Ytolgccbgmnlkbaa.O3 Go.Proofs.YtolgccbgmnlkbaaW.PrintWords Go.Proofs.YtolgccbgmnlkbaaW.PrintLast Go.Proofs.YtolgccbgmnlkbaaW.PrintMore
set_option linter.unusedVariables false
set_option linter.unusedSimpArgs false

def part (W D r : Int) (n : Nat) : List ByteArray := (List.range n).map fun i : Nat => txt (df D 0 (cod D W.toNat ((r + i) % cnt W D)))

theorem specPart {W D r : Int} (h : LK W D) (h0 : 0 ≤ r) (h1 : r < cnt W D) {n : Nat} (hn : n ≤ 60) : Ev (fun k => spec_RoundPart.l0 k r (n : Int) [] 0 W D) (part W D r n, true) := by
  have cb := cnt_bd h
  refine ev_loop (g := fun j k => spec_RoundPart.l0 k r (n : Int) (part W D r j) (j : Int) W D) n ?_ ?_
  · intro j hj ih
    refine Ev.succ ?_
    have e : (part W D r j).length = j := by simp [part]
    have m0 := Int.emod_nonneg (r + j) (b := cnt W D) (by omega)
    have m1 := Int.emod_lt_of_pos (r + j) (b := cnt W D) (by omega)
    have em : Int.tmod (r + j) (cnt W D) = (r + j) % cnt W D := Int.tmod_eq_emod_of_nonneg (by omega)
    simp only [spec_RoundPart.l0, if_pos (show (j : Int) < (n : Int) by omega), w64 (x := r + j) (by omega) (by omega), e, if_pos (show j < 8796093022208 by omega), w64 (x := (j : Int) + 1) (by omega) (by omega)]
    refine Ev.bind (whCount_ev h) ?_
    simp only [if_neg (show ¬ cnt W D = 0 by omega), em]
    refine Ev.bind (orRound_ev h m0 (by omega)) ?_
    have e2 : part W D r (j + 1) = part W D r j ++ [txt (df D 0 (cod D W.toNat ((r + j) % cnt W D)))] := by simp [part, List.range_succ]
    rw [e2] at ih
    exact ih
  · refine Ev.succ ?_
    simp only [spec_RoundPart.l0, if_neg (show ¬ ((n : Nat) : Int) < (n : Int) by omega)]
    exact Ev.now _
theorem implPart {W D r : Int} (h : LK W D) (h0 : 0 ≤ r) (h1 : r < cnt W D) {n : Nat} (hn : n ≤ 60) : Ev (fun k => impl_RoundPart.l0 k r [] (n : Int) 0 W D) (part W D r n, true) := by
  have cb := cnt_bd h
  refine ev_loop (g := fun j k => impl_RoundPart.l0 k r (part W D r j) (n : Int) (j : Int) W D) n ?_ ?_
  · intro j hj ih
    refine Ev.succ ?_
    have e : (part W D r j).length = j := by simp [part]
    have m0 := Int.emod_nonneg (r + j) (b := cnt W D) (by omega)
    have m1 := Int.emod_lt_of_pos (r + j) (b := cnt W D) (by omega)
    have em : Int.tmod (r + j) (cnt W D) = (r + j) % cnt W D := Int.tmod_eq_emod_of_nonneg (by omega)
    simp only [impl_RoundPart.l0, if_pos (show (j : Int) < (n : Int) by omega), w64 (x := r + j) (by omega) (by omega), e, if_pos (show j < 8796093022208 by omega), w64 (x := (j : Int) + 1) (by omega) (by omega)]
    refine Ev.bind (count_ev h) ?_
    simp only [if_neg (show ¬ cnt W D = 0 by omega), em]
    refine Ev.bind (round_ev h m0 (by omega)) ?_
    have e2 : part W D r (j + 1) = part W D r j ++ [txt (df D 0 (cod D W.toNat ((r + j) % cnt W D)))] := by simp [part, List.range_succ]
    rw [e2] at ih
    exact ih
  · refine Ev.succ ?_
    simp only [impl_RoundPart.l0, if_neg (show ¬ ((n : Nat) : Int) < (n : Int) by omega)]
    exact Ev.now _

theorem both (W D r n : Int) (hr : -9223372036854775808 ≤ r ∧ r ≤ 9223372036854775807) : ∃ l b, l.length ≤ 60 ∧ Ev (fun k => spec_RoundPart.f k W D r n) (l, b) ∧ Ev (fun k => impl_RoundPart.f k W D r n) (l, b) := by
  unfold spec_RoundPart.f impl_RoundPart.f
  by_cases h : LK W D ∧ 0 ≤ r ∧ r < cnt W D
  · have cb := cnt_bd h.1
    by_cases hn : 0 ≤ n ∧ n ≤ 60
    · obtain ⟨m, rfl⟩ : ∃ m : Nat, n = m := ⟨n.toNat, by omega⟩
      refine ⟨part W D r m, true, by simp [part]; omega, Ev.bind (orRank_ev W D r) ?_, Ev.bind (isRank_ev W D r) ?_⟩
      · simp only [decide_eq_true h, if_true, l1In_eq, Option.bind_some, decide_eq_true hn, Bool.not_true]
        refine Ev.succ ?_
        simp only [spec_RoundPart.j0, Bool.false_eq_true, if_false]
        exact specPart h.1 h.2.1 h.2.2 (by omega)
      · simp only [decide_eq_true h, if_true, within_eq, Option.bind_some, decide_eq_true hn, Bool.not_true]
        refine Ev.succ ?_
        simp only [impl_RoundPart.j0, Bool.false_eq_true, if_false]
        exact implPart h.1 h.2.1 h.2.2 (by omega)
    · refine ⟨[], false, by simp, Ev.bind (orRank_ev W D r) ?_, Ev.bind (isRank_ev W D r) ?_⟩
      · simp only [decide_eq_true h, if_true, l1In_eq, Option.bind_some, decide_eq_false hn, Bool.not_false]
        refine Ev.succ ?_
        simp only [spec_RoundPart.j0, if_true]
        exact Ev.now _
      · simp only [decide_eq_true h, if_true, within_eq, Option.bind_some, decide_eq_false hn, Bool.not_false]
        refine Ev.succ ?_
        simp only [impl_RoundPart.j0, if_true]
        exact Ev.now _
  · refine ⟨[], false, by simp, Ev.bind (orRank_ev W D r) ?_, Ev.bind (isRank_ev W D r) ?_⟩
    · simp only [decide_eq_false h, Bool.false_eq_true, if_false]
      refine Ev.succ ?_
      simp only [spec_RoundPart.j0, if_true]
      exact Ev.now _
    · simp only [decide_eq_false h, Bool.false_eq_true, if_false]
      refine Ev.succ ?_
      simp only [impl_RoundPart.j0, if_true]
      exact Ev.now _

theorem FnExactRoundPart : ∀ (a0_0 : Int) (a0_1 : Int) (a1 : Int) (a2 : Int), (-9223372036854775808 ≤ a0_0 ∧ a0_0 ≤ 9223372036854775807) → (-9223372036854775808 ≤ a0_1 ∧ a0_1 ≤ 9223372036854775807) → (-9223372036854775808 ≤ a1 ∧ a1 ≤ 9223372036854775807) → (-9223372036854775808 ≤ a2 ∧ a2 ≤ 9223372036854775807) → ∃ k, laws_FnExactRoundPart.f k a0_0 a0_1 a1 a2 = some true := by
  intro W D r n _ _ hr _
  refine ev_ex ?_
  obtain ⟨l, b, hl, h1, h2⟩ := both W D r n hr
  unfold laws_FnExactRoundPart.f
  simp only [laws_toLock.f, Option.bind_some]
  refine Ev.bind h1 (Ev.bind h2 (Ev.bind (eqStringS_ev l (by omega)) ?_))
  simp only [if_true, bne_self_eq_false]
  refine Ev.succ ?_
  simp only [laws_FnExactRoundPart.j0, Bool.false_eq_true, if_false]
  refine Ev.bind (marked l (by omega)) (Ev.bind (held l.length (by omega)) ?_)
  simp only [if_neg (show ¬ ((l.length : Int) + 1 < 0) by omega), if_true, laws_toLock.f, Option.bind_some]
  refine Ev.bind h2 (Ev.bind (eqStringS_ev l (by omega)) ?_)
  simp only [if_true, bne_self_eq_false]
  refine Ev.succ ?_
  simp only [laws_FnExactRoundPart.j1, Bool.false_eq_true, if_false]
  refine Ev.bind (held l.length (by omega)) ?_
  simp only [if_neg (show ¬ ((l.length : Int) + 1 < 0) by omega), if_true]
  exact Ev.now _

end Go.Proofs.Ytolgccbgmnlkbaa.Pure
