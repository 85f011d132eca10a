/- The plain statement behind the law FnExactForthPart: whatever the input, the law's Lean function answers true. Conditions: none but the sizes that the row gives. -/
import Derived.Test.YtolgccbgmnlkbaaO
import Derived.Test.YtolgccbgmnlkbaaPx1
import Derived.Test.YtolgccbgmnlkbaaPx73
import Derived.Test.YtolgccbgmnlkbaaPx74
import Derived.Test.YtolgccbgmnlkbaaPx75
namespace Go.Proofs.Ytolgccbgmnlkbaa.Pure
open Go.RowKit Go.Proofs.Ytolgccbgmnlkbaa.P Go.Proofs.Ytolgccbgmnlkbaa.B Go.Proofs.Ytolgccbgmnlkbaa.C Go.Proofs.Ytolgccbgmnlkbaa.L Go.Proofs.Ytolgccbgmnlkbaa.A Go.Proofs.Ytolgccbgmnlkbaa.O Go.Proofs.YtolgccbgmnlkbaaW.PrintWords Go.Proofs.YtolgccbgmnlkbaaW.PrintLast Go.Proofs.YtolgccbgmnlkbaaW.PrintMore
set_option linter.unusedVariables false
set_option linter.unusedSimpArgs false

def part (W D r : Int) (n : Nat) : List ByteArray := (List.range n).map fun i : Nat => txt (fi D W.toNat (r + i))

theorem specPart {W D r : Int} (h : LK W D) (h0 : 0 ≤ r) {n : Nat} (hn : n ≤ 60) (h1 : r + n ≤ cnt W D) : Ev (fun k => spec_ForthPart.l0 k r (n : Int) [] 0 W D) (part W D r n, true) := by
  have cb := cnt_bd h
  refine ev_loop (g := fun j k => spec_ForthPart.l0 k r (n : Int) (part W D r j) (j : Int) W D) n ?_ ?_
  · intro j hj ih
    refine Ev.succ ?_
    have e : (part W D r j).length = j := by simp [part]
    simp only [spec_ForthPart.l0, if_pos (show (j : Int) < (n : Int) by omega), w64 (x := r + j) (by omega) (by omega), e, if_pos (show j < 8796093022208 by omega), w64 (x := (j : Int) + 1) (by omega) (by omega)]
    refine Ev.bind (orForth_ev h (r := r + j) (by omega) (by omega)) ?_
    have e2 : part W D r (j + 1) = part W D r j ++ [txt (fi D W.toNat (r + j))] := by simp [part, List.range_succ]
    rw [e2] at ih
    exact ih
  · refine Ev.succ ?_
    simp only [spec_ForthPart.l0, if_neg (show ¬ ((n : Nat) : Int) < (n : Int) by omega)]
    exact Ev.now _
theorem implPart {W D r : Int} (h : LK W D) (h0 : 0 ≤ r) {n : Nat} (hn : n ≤ 60) (h1 : r + n ≤ cnt W D) : Ev (fun k => impl_ForthPart.l0 k r [] (n : Int) 0 W D) (part W D r n, true) := by
  have cb := cnt_bd h
  refine ev_loop (g := fun j k => impl_ForthPart.l0 k r (part W D r j) (n : Int) (j : Int) W D) n ?_ ?_
  · intro j hj ih
    refine Ev.succ ?_
    have e : (part W D r j).length = j := by simp [part]
    simp only [impl_ForthPart.l0, if_pos (show (j : Int) < (n : Int) by omega), w64 (x := r + j) (by omega) (by omega), e, if_pos (show j < 8796093022208 by omega), w64 (x := (j : Int) + 1) (by omega) (by omega)]
    refine Ev.bind (forth_ev h (r := r + j) (by omega) (by omega)) ?_
    have e2 : part W D r (j + 1) = part W D r j ++ [txt (fi D W.toNat (r + j))] := by simp [part, List.range_succ]
    rw [e2] at ih
    exact ih
  · refine Ev.succ ?_
    simp only [impl_ForthPart.l0, if_neg (show ¬ ((n : Nat) : Int) < (n : Int) by omega)]
    exact Ev.now _

theorem both (W D r n : Int) (hr : -9223372036854775808 ≤ r ∧ r ≤ 9223372036854775807) : ∃ l b, l.length ≤ 60 ∧ Ev (fun k => spec_ForthPart.f k W D r n) (l, b) ∧ Ev (fun k => impl_ForthPart.f k W D r n) (l, b) := by
  unfold spec_ForthPart.f impl_ForthPart.f
  by_cases h : LK W D ∧ 0 ≤ r ∧ r < cnt W D
  · have cb := cnt_bd h.1
    by_cases hn : (0 ≤ n ∧ n ≤ 60) ∧ r + n ≤ cnt W D
    · obtain ⟨m, rfl⟩ : ∃ m : Nat, n = m := ⟨n.toNat, by omega⟩
      refine ⟨part W D r m, true, by simp [part]; omega, Ev.bind (orRank_ev W D r) ?_, Ev.bind (isRank_ev W D r) ?_⟩
      · simp only [decide_eq_true h, if_true, l1In_eq, Option.bind_some, decide_eq_true hn.1]
        refine Ev.bind (whCount_ev h.1) (Ev.succ ?_)
        simp only [w64 (x := r + (m : Int)) (by omega) (by omega), decide_eq_false (show ¬ r + (m : Int) > cnt W D by omega), spec_ForthPart.j0, Bool.false_eq_true, if_false]
        exact specPart h.1 h.2.1 (by omega) hn.2
      · simp only [decide_eq_true h, if_true]
        refine Ev.bind (count_ev h.1) ?_
        have e : (0 : Int) ≤ (m : Int) ∧ (m : Int) ≤ mn 60 (wrap64 (cnt W D - r)) := by rw [w64 (by omega) (by omega)]; unfold mn; split <;> omega
        simp only [within_eq, Option.bind_some, decide_eq_true e, Bool.not_true]
        refine Ev.succ ?_
        simp only [impl_ForthPart.j0, Bool.false_eq_true, if_false]
        exact implPart h.1 h.2.1 (by omega) hn.2
    · refine ⟨[], false, by simp, Ev.bind (orRank_ev W D r) ?_, Ev.bind (isRank_ev W D r) ?_⟩
      · simp only [decide_eq_true h, if_true, l1In_eq, Option.bind_some]
        by_cases g : 0 ≤ n ∧ n ≤ 60
        · simp only [decide_eq_true g, if_true]
          refine Ev.bind (whCount_ev h.1) (Ev.succ ?_)
          simp only [w64 (x := r + n) (by omega) (by omega), decide_eq_true (show r + n > cnt W D by omega), spec_ForthPart.j0, if_true]
          exact Ev.now _
        · simp only [decide_eq_false g, Bool.false_eq_true, if_false]
          refine Ev.succ ?_
          simp only [spec_ForthPart.j0, if_true]
          exact Ev.now _
      · simp only [decide_eq_true h, if_true]
        refine Ev.bind (count_ev h.1) ?_
        have e : ¬ ((0 : Int) ≤ n ∧ n ≤ mn 60 (wrap64 (cnt W D - r))) := by rw [w64 (by omega) (by omega)]; unfold mn; split <;> omega
        simp only [within_eq, Option.bind_some, decide_eq_false e, Bool.not_false]
        refine Ev.succ ?_
        simp only [impl_ForthPart.j0, if_true]
        exact Ev.now _
  · refine ⟨[], false, by simp, Ev.bind (orRank_ev W D r) ?_, Ev.bind (isRank_ev W D r) ?_⟩
    · simp only [decide_eq_false h, Bool.false_eq_true, if_false]
      refine Ev.succ ?_
      simp only [spec_ForthPart.j0, if_true]
      exact Ev.now _
    · simp only [decide_eq_false h, Bool.false_eq_true, if_false]
      refine Ev.succ ?_
      simp only [impl_ForthPart.j0, if_true]
      exact Ev.now _

theorem FnExactForthPart : ∀ (a0_0 : Int) (a0_1 : Int) (a1 : Int) (a2 : Int), (-9223372036854775808 ≤ a0_0 ∧ a0_0 ≤ 9223372036854775807) → (-9223372036854775808 ≤ a0_1 ∧ a0_1 ≤ 9223372036854775807) → (-9223372036854775808 ≤ a1 ∧ a1 ≤ 9223372036854775807) → (-9223372036854775808 ≤ a2 ∧ a2 ≤ 9223372036854775807) → ∃ k, laws_FnExactForthPart.f k a0_0 a0_1 a1 a2 = some true := by
  intro W D r n _ _ hr _
  refine ev_ex ?_
  obtain ⟨l, b, hl, h1, h2⟩ := both W D r n hr
  unfold laws_FnExactForthPart.f
  simp only [laws_toLock.f, Option.bind_some]
  refine Ev.bind h1 (Ev.bind h2 (Ev.bind (eqStringS_ev l (by omega)) ?_))
  simp only [if_true, bne_self_eq_false]
  refine Ev.succ ?_
  simp only [laws_FnExactForthPart.j0, Bool.false_eq_true, if_false]
  refine Ev.bind (marked l (by omega)) (Ev.bind (held l.length (by omega)) ?_)
  simp only [if_neg (show ¬ ((l.length : Int) + 1 < 0) by omega), if_true, laws_toLock.f, Option.bind_some]
  refine Ev.bind h2 (Ev.bind (eqStringS_ev l (by omega)) ?_)
  simp only [if_true, bne_self_eq_false]
  refine Ev.succ ?_
  simp only [laws_FnExactForthPart.j1, Bool.false_eq_true, if_false]
  refine Ev.bind (held l.length (by omega)) ?_
  simp only [if_neg (show ¬ ((l.length : Int) + 1 < 0) by omega), if_true]
  exact Ev.now _

end Go.Proofs.Ytolgccbgmnlkbaa.Pure
