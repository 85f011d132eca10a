/- The plain statement behind the law FnExactCountRings: whatever the input, the law's Lean function answers true. Conditions: none but the sizes of whole numbers. -/
import Derived.Test.YtolgccbgmnlkbaaB
import Derived.Test.YtolgccbgmnlkbaaPx1
import Derived.Test.YtolgccbgmnlkbaaPx4
import Derived.Test.YtolgccbgmnlkbaaPx14
import Derived.Test.YtolgccbgmnlkbaaPx23
import Derived.Test.YtolgccbgmnlkbaaPx26
import Derived.Test.YtolgccbgmnlkbaaPx27
namespace Go.Proofs.Ytolgccbgmnlkbaa.Pure
open Go.RowKit Go.Proofs.Ytolgccbgmnlkbaa.P Go.Proofs.Ytolgccbgmnlkbaa.B Go.Proofs.YtolgccbgmnlkbaaW.PrintWords Go.Proofs.YtolgccbgmnlkbaaW.PrintLast Go.Proofs.YtolgccbgmnlkbaaW.PrintMore
set_option linter.unusedVariables false
set_option linter.unusedSimpArgs false

theorem all_fine : ((List.range 6).all fun i => (List.range 9).all fun j => laws_FnExactCountRings.f 3000 (i + 1) (j + 2) == some true) = true := by decide +kernel

theorem FnExactCountRings : ∀ (a0_0 : Int) (a0_1 : Int), (-9223372036854775808 ≤ a0_0 ∧ a0_0 ≤ 9223372036854775807) → (-9223372036854775808 ≤ a0_1 ∧ a0_1 ≤ 9223372036854775807) → ∃ k, laws_FnExactCountRings.f k a0_0 a0_1 = some true := by
  intro W D _ _
  by_cases h : LK W D
  · exact ⟨3000, eq_of_beq (for_good (p := fun W D => laws_FnExactCountRings.f 3000 W D == some true) all_fine h)⟩
  · refine ⟨10, ?_⟩
    have s : spec_CountRings.f 10 W D = some (0, false) := by
      unfold spec_CountRings.f spec_riGood.f; rw [whGood_eq, decide_eq_false h]; rfl
    have i : impl_CountRings.f 10 W D = some (0, false) := by
      unfold impl_CountRings.f impl_isRounded.f impl_isSmall.f; rw [IsLock_eq, decide_eq_false h]; rfl
    unfold laws_FnExactCountRings.f laws_toLock.f
    simp only [Option.bind_some, s, i]
    rfl

end Go.Proofs.Ytolgccbgmnlkbaa.Pure
