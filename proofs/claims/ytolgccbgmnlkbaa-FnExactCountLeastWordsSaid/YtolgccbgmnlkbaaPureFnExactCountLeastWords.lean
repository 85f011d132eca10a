/- The plain statement behind the law FnExactCountLeastWords: whatever the input, the law's Lean function answers true. Conditions: none but the sizes of whole numbers. -/
import Derived.Test.YtolgccbgmnlkbaaB
import Derived.Test.YtolgccbgmnlkbaaPx1
import Derived.Test.YtolgccbgmnlkbaaPx4
import Derived.Test.YtolgccbgmnlkbaaPx7
import Derived.Test.YtolgccbgmnlkbaaPx14
import Derived.Test.YtolgccbgmnlkbaaPx15
import Derived.Test.YtolgccbgmnlkbaaPx16
namespace Go.Proofs.Ytolgccbgmnlkbaa.Pure
open Go.RowKit Go.Proofs.Ytolgccbgmnlkbaa.P Go.Proofs.Ytolgccbgmnlkbaa.B Go.Proofs.YtolgccbgmnlkbaaW.PrintWords Go.Proofs.YtolgccbgmnlkbaaW.PrintLast Go.Proofs.YtolgccbgmnlkbaaW.PrintMore
set_option linter.unusedVariables false
set_option linter.unusedSimpArgs false

theorem isRounded_ev (W D : Int) : Ev (fun k => impl_isRounded.f k W D) (decide (LK W D ∧ cnt W D ≤ 1000)) := by
  unfold impl_isRounded.f
  exact Ev.bind (isSmall_ev W D 1000) (Ev.now _)
theorem riGood_ev (W D : Int) : Ev (fun k => spec_riGood.f k W D) (decide (LK W D ∧ cnt W D ≤ 1000)) := by
  unfold spec_riGood.f
  simp only [whGood_eq, Option.bind_some]
  by_cases h : LK W D
  · simp only [decide_eq_true h, if_true]
    rw [show decide (LK W D ∧ cnt W D ≤ 1000) = decide (cnt W D ≤ 1000) by rw [decide_eq_decide]; simp [h]]
    exact Ev.bind (whCount_ev h) (Ev.now _)
  · rw [show decide (LK W D ∧ cnt W D ≤ 1000) = false by rw [decide_eq_false_iff_not]; simp [h]]
    simp only [decide_eq_false h, Bool.false_eq_true, if_false]
    exact Ev.now _

theorem all_fine : ((List.range 6).all fun i => (List.range 9).all fun j => (List.range 12).all fun n => laws_FnExactCountLeastWords.f 200 (i + 1) (j + 2) (n + 1) == some true) = true := by decide +kernel

theorem FnExactCountLeastWords : ∀ (a0_0 : Int) (a0_1 : Int) (a1 : Int), (-9223372036854775808 ≤ a0_0 ∧ a0_0 ≤ 9223372036854775807) → (-9223372036854775808 ≤ a0_1 ∧ a0_1 ≤ 9223372036854775807) → (-9223372036854775808 ≤ a1 ∧ a1 ≤ 9223372036854775807) → ∃ k, laws_FnExactCountLeastWords.f k a0_0 a0_1 a1 = some true := by
  intro W D n _ _ _
  by_cases h : LK W D ∧ (1 ≤ n ∧ n ≤ 12)
  · obtain ⟨h, h1, h2⟩ := h
    have a := for_good (p := fun W D => (List.range 12).all fun n => laws_FnExactCountLeastWords.f 200 W D (n + 1) == some true) all_fine h
    rw [List.all_eq_true] at a
    have b := a (n.toNat - 1) (List.mem_range.mpr (by omega))
    rw [show ((n.toNat - 1 : Nat) : Int) + 1 = n by omega] at b
    exact ⟨200, eq_of_beq b⟩
  · refine ev_ex ?_
    have s : Ev (fun k => spec_CountLeastWords.f k W D n) (0, false) := by
      unfold spec_CountLeastWords.f
      refine Ev.bind (riGood_ev W D) ?_
      by_cases g : LK W D ∧ cnt W D ≤ 1000
      · have e : ¬ (1 ≤ n ∧ n ≤ 12) := fun e => h ⟨g.1, e⟩
        simp only [decide_eq_true g, if_true, l1In_eq, decide_eq_false e, Option.bind_some, Bool.false_eq_true, if_false]
        exact Ev.now _
      · simp only [decide_eq_false g, Bool.false_eq_true, if_false]
        exact Ev.now _
    have i : Ev (fun k => impl_CountLeastWords.f k W D n) (0, false) := by
      unfold impl_CountLeastWords.f
      refine Ev.bind (isRounded_ev W D) ?_
      by_cases g : LK W D ∧ cnt W D ≤ 1000
      · have e : ¬ (1 ≤ n ∧ n ≤ 12) := fun e => h ⟨g.1, e⟩
        simp only [decide_eq_true g, if_true, within_eq, decide_eq_false e, Option.bind_some, Bool.not_false]
        exact Ev.step (fun k => by simp only [impl_CountLeastWords.j0, if_true]) (Ev.now _)
      · simp only [decide_eq_false g, Bool.false_eq_true, if_false]
        exact Ev.step (fun k => by simp only [impl_CountLeastWords.j0, if_true]) (Ev.now _)
    unfold laws_FnExactCountLeastWords.f laws_toLock.f
    simp only [Option.bind_some]
    refine Ev.bind s (Ev.bind i ?_)
    exact Ev.now _

end Go.Proofs.Ytolgccbgmnlkbaa.Pure
