/- The plain statement behind the law FnExactWheelTurns: whatever the input, the law's Lean function answers true. Conditions: none but the sizes of whole numbers. -/
import Derived.Test.YtolgccbgmnlkbaaB
import Derived.Test.YtolgccbgmnlkbaaPx1
import Derived.Test.YtolgccbgmnlkbaaPx17
import Derived.Test.YtolgccbgmnlkbaaPx18
import Derived.Test.YtolgccbgmnlkbaaPx19
import Derived.Test.YtolgccbgmnlkbaaPx22
namespace Go.Proofs.Ytolgccbgmnlkbaa.Pure
open Go.RowKit Go.Proofs.Ytolgccbgmnlkbaa.P Go.Proofs.Ytolgccbgmnlkbaa.B Go.Proofs.YtolgccbgmnlkbaaW.PrintWords Go.Proofs.YtolgccbgmnlkbaaW.PrintLast Go.Proofs.YtolgccbgmnlkbaaW.PrintMore
set_option linter.unusedVariables false
set_option linter.unusedSimpArgs false

theorem all_fine : ((List.range 6).all fun i => (List.range 9).all fun j => laws_FnExactWheelTurns.f 40 (i + 1) (j + 2) == some true) = true := by decide +kernel

theorem FnExactWheelTurns : ∀ (a0_0 : Int) (a0_1 : Int), (-9223372036854775808 ≤ a0_0 ∧ a0_0 ≤ 9223372036854775807) → (-9223372036854775808 ≤ a0_1 ∧ a0_1 ≤ 9223372036854775807) → ∃ k, laws_FnExactWheelTurns.f k a0_0 a0_1 = some true := by
  intro W D _ _
  by_cases h : LK W D
  · exact ⟨40, eq_of_beq (for_good (p := fun W D => laws_FnExactWheelTurns.f 40 W D == some true) all_fine h)⟩
  · refine ⟨10, ?_⟩
    have s : spec_WheelTurns.f 10 W D = some ([], false) := by
      unfold spec_WheelTurns.f; rw [whGood_eq, decide_eq_false h]; rfl
    have i : impl_WheelTurns.f 10 W D = some ([], false) := by
      unfold impl_WheelTurns.f; rw [IsLock_eq, decide_eq_false h]; rfl
    have i9 : impl_WheelTurns.f 9 W D = some ([], false) := by
      unfold impl_WheelTurns.f; rw [IsLock_eq, decide_eq_false h]; rfl
    unfold laws_FnExactWheelTurns.f laws_toLock.f
    simp only [Option.bind_some, s, i]
    have e : laws_eqIntS.f 10 [] [] = some true := rfl
    simp only [e, Option.bind_some, if_true]
    simp only [laws_FnExactWheelTurns.j0, bne_self_eq_false, Bool.false_eq_true, if_false]
    have m : laws_markIntS.f 9 [] 1 = some (1, []) := rfl
    have q : laws_heldIntS.f 9 [] 1 = some 1 := rfl
    have e9 : laws_eqIntS.f 9 [] [] = some true := rfl
    simp only [m, q, Option.bind_some, laws_toLock.f, i9, e9, if_true]
    rfl

end Go.Proofs.Ytolgccbgmnlkbaa.Pure
