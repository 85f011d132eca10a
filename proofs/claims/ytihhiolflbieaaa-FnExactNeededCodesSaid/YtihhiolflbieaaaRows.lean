/-
  No cell of these rows narrows 'for every input' (looked for: loops, veiled, ifaces, maps, wideKeys, modest, calm, conditions, laid).
  DERIVED. THE GIVEN ROWS OF THIS SEAT. 11 by the template 'for every input the law returns true; each argument reads behind the call as it read before'; 0 by the template 'total and deterministic' (their statements: YtihhiolflbieaaaTotals.lean).
  GIVEN WITH THE SEED: the statements are not yours to turn. If you find one false, say at which input.
  Laid BY PROGRAM, IN A SANDBOX (cutbox-rows.mjs): the forced cells as the released guide's own fill.sh prints them over the translation 6d2aff386aa00db5… (all of the seat's roots in one cut). By AI agents, Wed Nov 11 2026. No macro, syntax, notation, axiom, sorry.
-/
import Derived.Test.YtihhiolflbieaaaChecked
import GoSem.Claim
import GoSem.ClaimJoined
import GoSem.ClaimMapViews
import Derived.JoinedTies
import Derived.KernelRfl
namespace Go.Proofs.Ytihhiolflbieaaa
/- THE CELL 'sum', in the pinned program and in every row, IS THE sha256 OF THE DUMP (.gsa) THAT YtihhiolflbieaaaProg.lean LOADS. Nothing in Lean hashes anything: it is a label: what it is worth is what the hold of that sum in a sandbox is worth. -/
noncomputable def Try.pinned : Pinned := { name := "ytihhiolflbieaaa", sum := "6d2aff386aa00db54c2756f6633045bf2c9c075c650b21d07089a0783930cdf8", checked := Try.checked }
namespace Rows
def none {H : Type} : Left H := { results := [], args := [] }

/-- 'laws.FnExactIsTurnOrder': WHATEVER THE INPUT: true; the input reads as it did. -/
def fnExactIsTurnOrderSpec : ChangeSpec := { name := "fnExactIsTurnOrder", fn := fun _ => fun
  | [d1, d2] => { results := [.lit (.bool true)], args := [d1, d2] }
  | _ => none }
def fnExactIsTurnOrderRow : OpenClaim := { program := "ytihhiolflbieaaa", sum := "6d2aff386aa00db54c2756f6633045bf2c9c075c650b21d07089a0783930cdf8", func := "loop.example/g01304/laws.FnExactIsTurnOrder", spec := "fnExactIsTurnOrder", apart := false }
def FnExactIsTurnOrderSaid : Prop := fnExactIsTurnOrderRow.holds Try.pinned (OpenSpec.ofChange fnExactIsTurnOrderSpec)

/-- ITS FALSE NEIGHBOUR: 'it returns false'. Refute it at one input. -/
def fnExactIsTurnOrderWrong : ChangeSpec := { name := "fnExactIsTurnOrder", fn := fun _ => fun
  | [d1, d2] => { results := [.lit (.bool false)], args := [d1, d2] }
  | _ => none }
def FnExactIsTurnOrderWrongFalsely : Prop := fnExactIsTurnOrderRow.holds Try.pinned (OpenSpec.ofChange fnExactIsTurnOrderWrong)

/-- 'laws.FnExactIsWholeOrder': WHATEVER THE INPUT: true; the input reads as it did. -/
def fnExactIsWholeOrderSpec : ChangeSpec := { name := "fnExactIsWholeOrder", fn := fun _ => fun
  | [d1, d2] => { results := [.lit (.bool true)], args := [d1, d2] }
  | _ => none }
def fnExactIsWholeOrderRow : OpenClaim := { program := "ytihhiolflbieaaa", sum := "6d2aff386aa00db54c2756f6633045bf2c9c075c650b21d07089a0783930cdf8", func := "loop.example/g01304/laws.FnExactIsWholeOrder", spec := "fnExactIsWholeOrder", apart := false }
def FnExactIsWholeOrderSaid : Prop := fnExactIsWholeOrderRow.holds Try.pinned (OpenSpec.ofChange fnExactIsWholeOrderSpec)

/-- ITS FALSE NEIGHBOUR: 'it returns false'. Refute it at one input. -/
def fnExactIsWholeOrderWrong : ChangeSpec := { name := "fnExactIsWholeOrder", fn := fun _ => fun
  | [d1, d2] => { results := [.lit (.bool false)], args := [d1, d2] }
  | _ => none }
def FnExactIsWholeOrderWrongFalsely : Prop := fnExactIsWholeOrderRow.holds Try.pinned (OpenSpec.ofChange fnExactIsWholeOrderWrong)

/-- 'laws.FnExactIsClosedOrder': WHATEVER THE INPUT: true; the input reads as it did. -/
def fnExactIsClosedOrderSpec : ChangeSpec := { name := "fnExactIsClosedOrder", fn := fun _ => fun
  | [d1, d2] => { results := [.lit (.bool true)], args := [d1, d2] }
  | _ => none }
def fnExactIsClosedOrderRow : OpenClaim := { program := "ytihhiolflbieaaa", sum := "6d2aff386aa00db54c2756f6633045bf2c9c075c650b21d07089a0783930cdf8", func := "loop.example/g01304/laws.FnExactIsClosedOrder", spec := "fnExactIsClosedOrder", apart := false }
def FnExactIsClosedOrderSaid : Prop := fnExactIsClosedOrderRow.holds Try.pinned (OpenSpec.ofChange fnExactIsClosedOrderSpec)

/-- ITS FALSE NEIGHBOUR: 'it returns false'. Refute it at one input. -/
def fnExactIsClosedOrderWrong : ChangeSpec := { name := "fnExactIsClosedOrder", fn := fun _ => fun
  | [d1, d2] => { results := [.lit (.bool false)], args := [d1, d2] }
  | _ => none }
def FnExactIsClosedOrderWrongFalsely : Prop := fnExactIsClosedOrderRow.holds Try.pinned (OpenSpec.ofChange fnExactIsClosedOrderWrong)

/-- 'laws.FnExactTurnsOfOrder': WHATEVER THE INPUT: true; the input reads as it did. -/
def fnExactTurnsOfOrderSpec : ChangeSpec := { name := "fnExactTurnsOfOrder", fn := fun _ => fun
  | [d1, d2] => { results := [.lit (.bool true)], args := [d1, d2] }
  | _ => none }
def fnExactTurnsOfOrderRow : OpenClaim := { program := "ytihhiolflbieaaa", sum := "6d2aff386aa00db54c2756f6633045bf2c9c075c650b21d07089a0783930cdf8", func := "loop.example/g01304/laws.FnExactTurnsOfOrder", spec := "fnExactTurnsOfOrder", apart := false }
def FnExactTurnsOfOrderSaid : Prop := fnExactTurnsOfOrderRow.holds Try.pinned (OpenSpec.ofChange fnExactTurnsOfOrderSpec)

/-- ITS FALSE NEIGHBOUR: 'it returns false'. Refute it at one input. -/
def fnExactTurnsOfOrderWrong : ChangeSpec := { name := "fnExactTurnsOfOrder", fn := fun _ => fun
  | [d1, d2] => { results := [.lit (.bool false)], args := [d1, d2] }
  | _ => none }
def FnExactTurnsOfOrderWrongFalsely : Prop := fnExactTurnsOfOrderRow.holds Try.pinned (OpenSpec.ofChange fnExactTurnsOfOrderWrong)

/-- 'laws.FnExactFirstKnobs': WHATEVER THE INPUT: true; the input reads as it did. -/
def fnExactFirstKnobsSpec : ChangeSpec := { name := "fnExactFirstKnobs", fn := fun _ => fun
  | [d1, d2, d3] => { results := [.lit (.bool true)], args := [d1, d2, d3] }
  | _ => none }
def fnExactFirstKnobsRow : OpenClaim := { program := "ytihhiolflbieaaa", sum := "6d2aff386aa00db54c2756f6633045bf2c9c075c650b21d07089a0783930cdf8", func := "loop.example/g01304/laws.FnExactFirstKnobs", spec := "fnExactFirstKnobs", recurses := true, apart := false }
def FnExactFirstKnobsSaid : Prop := fnExactFirstKnobsRow.holds Try.pinned (OpenSpec.ofChange fnExactFirstKnobsSpec)

/-- ITS FALSE NEIGHBOUR: 'it returns false'. Refute it at one input. -/
def fnExactFirstKnobsWrong : ChangeSpec := { name := "fnExactFirstKnobs", fn := fun _ => fun
  | [d1, d2, d3] => { results := [.lit (.bool false)], args := [d1, d2, d3] }
  | _ => none }
def FnExactFirstKnobsWrongFalsely : Prop := fnExactFirstKnobsRow.holds Try.pinned (OpenSpec.ofChange fnExactFirstKnobsWrong)

/-- 'laws.FnExactCodesOfRing': WHATEVER THE INPUT: true; the input reads as it did. -/
def fnExactCodesOfRingSpec : ChangeSpec := { name := "fnExactCodesOfRing", fn := fun _ => fun
  | [d1, d2] => { results := [.lit (.bool true)], args := [d1, d2] }
  | _ => none }
def fnExactCodesOfRingRow : OpenClaim := { program := "ytihhiolflbieaaa", sum := "6d2aff386aa00db54c2756f6633045bf2c9c075c650b21d07089a0783930cdf8", func := "loop.example/g01304/laws.FnExactCodesOfRing", spec := "fnExactCodesOfRing", recurses := true, apart := false }
def FnExactCodesOfRingSaid : Prop := fnExactCodesOfRingRow.holds Try.pinned (OpenSpec.ofChange fnExactCodesOfRingSpec)

/-- ITS FALSE NEIGHBOUR: 'it returns false'. Refute it at one input. -/
def fnExactCodesOfRingWrong : ChangeSpec := { name := "fnExactCodesOfRing", fn := fun _ => fun
  | [d1, d2] => { results := [.lit (.bool false)], args := [d1, d2] }
  | _ => none }
def FnExactCodesOfRingWrongFalsely : Prop := fnExactCodesOfRingRow.holds Try.pinned (OpenSpec.ofChange fnExactCodesOfRingWrong)

/-- 'laws.FnExactCountClosed': WHATEVER THE INPUT: true; the input reads as it did. -/
def fnExactCountClosedSpec : ChangeSpec := { name := "fnExactCountClosed", fn := fun _ => fun
  | [d] => { results := [.lit (.bool true)], args := [d] }
  | _ => none }
def fnExactCountClosedRow : OpenClaim := { program := "ytihhiolflbieaaa", sum := "6d2aff386aa00db54c2756f6633045bf2c9c075c650b21d07089a0783930cdf8", func := "loop.example/g01304/laws.FnExactCountClosed", spec := "fnExactCountClosed", unfollowed := true, recurses := true, apart := false }
def FnExactCountClosedSaid : Prop := fnExactCountClosedRow.holds Try.pinned (OpenSpec.ofChange fnExactCountClosedSpec)

/-- ITS FALSE NEIGHBOUR: 'it returns false'. Refute it at one input. -/
def fnExactCountClosedWrong : ChangeSpec := { name := "fnExactCountClosed", fn := fun _ => fun
  | [d] => { results := [.lit (.bool false)], args := [d] }
  | _ => none }
def FnExactCountClosedWrongFalsely : Prop := fnExactCountClosedRow.holds Try.pinned (OpenSpec.ofChange fnExactCountClosedWrong)

/-- 'laws.FnExactCountWhole': WHATEVER THE INPUT: true; the input reads as it did. -/
def fnExactCountWholeSpec : ChangeSpec := { name := "fnExactCountWhole", fn := fun _ => fun
  | [d] => { results := [.lit (.bool true)], args := [d] }
  | _ => none }
def fnExactCountWholeRow : OpenClaim := { program := "ytihhiolflbieaaa", sum := "6d2aff386aa00db54c2756f6633045bf2c9c075c650b21d07089a0783930cdf8", func := "loop.example/g01304/laws.FnExactCountWhole", spec := "fnExactCountWhole", unfollowed := true, recurses := true, apart := false }
def FnExactCountWholeSaid : Prop := fnExactCountWholeRow.holds Try.pinned (OpenSpec.ofChange fnExactCountWholeSpec)

/-- ITS FALSE NEIGHBOUR: 'it returns false'. Refute it at one input. -/
def fnExactCountWholeWrong : ChangeSpec := { name := "fnExactCountWhole", fn := fun _ => fun
  | [d] => { results := [.lit (.bool false)], args := [d] }
  | _ => none }
def FnExactCountWholeWrongFalsely : Prop := fnExactCountWholeRow.holds Try.pinned (OpenSpec.ofChange fnExactCountWholeWrong)

/-- 'laws.FnExactLiveNext': WHATEVER THE INPUT: true; the input reads as it did. -/
def fnExactLiveNextSpec : ChangeSpec := { name := "fnExactLiveNext", fn := fun _ => fun
  | [d1, d2, d3] => { results := [.lit (.bool true)], args := [d1, d2, d3] }
  | _ => none }
def fnExactLiveNextRow : OpenClaim := { program := "ytihhiolflbieaaa", sum := "6d2aff386aa00db54c2756f6633045bf2c9c075c650b21d07089a0783930cdf8", func := "loop.example/g01304/laws.FnExactLiveNext", spec := "fnExactLiveNext", unfollowed := true, recurses := true, apart := false }
def FnExactLiveNextSaid : Prop := fnExactLiveNextRow.holds Try.pinned (OpenSpec.ofChange fnExactLiveNextSpec)

/-- ITS FALSE NEIGHBOUR: 'it returns false'. Refute it at one input. -/
def fnExactLiveNextWrong : ChangeSpec := { name := "fnExactLiveNext", fn := fun _ => fun
  | [d1, d2, d3] => { results := [.lit (.bool false)], args := [d1, d2, d3] }
  | _ => none }
def FnExactLiveNextWrongFalsely : Prop := fnExactLiveNextRow.holds Try.pinned (OpenSpec.ofChange fnExactLiveNextWrong)

/-- 'laws.FnExactFirstWhole': WHATEVER THE INPUT: true; the input reads as it did. -/
def fnExactFirstWholeSpec : ChangeSpec := { name := "fnExactFirstWhole", fn := fun _ => fun
  | [d] => { results := [.lit (.bool true)], args := [d] }
  | _ => none }
def fnExactFirstWholeRow : OpenClaim := { program := "ytihhiolflbieaaa", sum := "6d2aff386aa00db54c2756f6633045bf2c9c075c650b21d07089a0783930cdf8", func := "loop.example/g01304/laws.FnExactFirstWhole", spec := "fnExactFirstWhole", unfollowed := true, recurses := true, apart := false }
def FnExactFirstWholeSaid : Prop := fnExactFirstWholeRow.holds Try.pinned (OpenSpec.ofChange fnExactFirstWholeSpec)

/-- ITS FALSE NEIGHBOUR: 'it returns false'. Refute it at one input. -/
def fnExactFirstWholeWrong : ChangeSpec := { name := "fnExactFirstWhole", fn := fun _ => fun
  | [d] => { results := [.lit (.bool false)], args := [d] }
  | _ => none }
def FnExactFirstWholeWrongFalsely : Prop := fnExactFirstWholeRow.holds Try.pinned (OpenSpec.ofChange fnExactFirstWholeWrong)

/-- 'laws.FnExactNeededCodes': WHATEVER THE INPUT: true; the input reads as it did. -/
def fnExactNeededCodesSpec : ChangeSpec := { name := "fnExactNeededCodes", fn := fun _ => fun
  | [d1, d2, d3, d4] => { results := [.lit (.bool true)], args := [d1, d2, d3, d4] }
  | _ => none }
def fnExactNeededCodesRow : OpenClaim := { program := "ytihhiolflbieaaa", sum := "6d2aff386aa00db54c2756f6633045bf2c9c075c650b21d07089a0783930cdf8", func := "loop.example/g01304/laws.FnExactNeededCodes", spec := "fnExactNeededCodes", unfollowed := true, recurses := true, apart := false }
def FnExactNeededCodesSaid : Prop := fnExactNeededCodesRow.holds Try.pinned (OpenSpec.ofChange fnExactNeededCodesSpec)

/-- ITS FALSE NEIGHBOUR: 'it returns false'. Refute it at one input. -/
def fnExactNeededCodesWrong : ChangeSpec := { name := "fnExactNeededCodes", fn := fun _ => fun
  | [d1, d2, d3, d4] => { results := [.lit (.bool false)], args := [d1, d2, d3, d4] }
  | _ => none }
def FnExactNeededCodesWrongFalsely : Prop := fnExactNeededCodesRow.holds Try.pinned (OpenSpec.ofChange fnExactNeededCodesWrong)

/- THE SECOND FORM. 'bulk': how many values and letters a reading holds, each counted each time it is reached (what is shared counts as often as it is met; a slice's spare places count too). A statement '..UptoSaid' is the law's where the arguments, and the package variables that the reading takes, are together of bulk at most 1048576: NARROWER than '..Said'. Prove '..Said' where nothing that the law and all that it calls make is longer than what came in: it says more and counts as full. Else prove '..UptoSaid'. A law counts once. -/
mutual
def uptoBulk {H : Type} : DataW H → Nat
  | .lit (.string bytes) => bytes.length + 1
  | .lit _ => 1
  | .nil => 1
  | .ptr d => uptoBulk d + 1
  | .slice elems spare => uptoBulkAll elems + uptoBulkAll spare + 1
  | .agg parts => uptoBulkAll parts + 1
  | .iface _ d => uptoBulk d + 1
  | .map entries => uptoBulkEntries entries + 1
  | .held _ => 1
def uptoBulkAll {H : Type} : List (DataW H) → Nat
  | [] => 0
  | d :: r => uptoBulk d + uptoBulkAll r
def uptoBulkEntries {H : Type} : List (Lit × DataW H) → Nat
  | [] => 0
  | x :: r => uptoBulkEntry x + uptoBulkEntries r
def uptoBulkEntry {H : Type} : Lit × DataW H → Nat
  | (.string bytes, d) => bytes.length + uptoBulk d + 1
  | (_, d) => uptoBulk d + 1
 end
def uptoSmall : (H : Type) → List (DataW H) → Bool := fun _ ds => decide (uptoBulkAll ds ≤ 1048576)
def OpenSpec.upto (s : _root_.Go.ChangeSpec) : _root_.Go.OpenSpec := { _root_.Go.OpenSpec.ofChange s with cond := some uptoSmall }

/-- 'laws.FnExactIsTurnOrder', WHERE WHAT IT READS IS OF BULK AT MOST 1048576: true; the input reads as it did. -/
def fnExactIsTurnOrderUptoRow : OpenClaim := { program := "ytihhiolflbieaaa", sum := "6d2aff386aa00db54c2756f6633045bf2c9c075c650b21d07089a0783930cdf8", func := "loop.example/g01304/laws.FnExactIsTurnOrder", spec := "fnExactIsTurnOrder", apart := false, narrowed := true }
def FnExactIsTurnOrderUptoSaid : Prop := fnExactIsTurnOrderUptoRow.holds Try.pinned (OpenSpec.upto fnExactIsTurnOrderSpec)

/-- 'laws.FnExactIsWholeOrder', WHERE WHAT IT READS IS OF BULK AT MOST 1048576: true; the input reads as it did. -/
def fnExactIsWholeOrderUptoRow : OpenClaim := { program := "ytihhiolflbieaaa", sum := "6d2aff386aa00db54c2756f6633045bf2c9c075c650b21d07089a0783930cdf8", func := "loop.example/g01304/laws.FnExactIsWholeOrder", spec := "fnExactIsWholeOrder", apart := false, narrowed := true }
def FnExactIsWholeOrderUptoSaid : Prop := fnExactIsWholeOrderUptoRow.holds Try.pinned (OpenSpec.upto fnExactIsWholeOrderSpec)

/-- 'laws.FnExactIsClosedOrder', WHERE WHAT IT READS IS OF BULK AT MOST 1048576: true; the input reads as it did. -/
def fnExactIsClosedOrderUptoRow : OpenClaim := { program := "ytihhiolflbieaaa", sum := "6d2aff386aa00db54c2756f6633045bf2c9c075c650b21d07089a0783930cdf8", func := "loop.example/g01304/laws.FnExactIsClosedOrder", spec := "fnExactIsClosedOrder", apart := false, narrowed := true }
def FnExactIsClosedOrderUptoSaid : Prop := fnExactIsClosedOrderUptoRow.holds Try.pinned (OpenSpec.upto fnExactIsClosedOrderSpec)

/-- 'laws.FnExactTurnsOfOrder', WHERE WHAT IT READS IS OF BULK AT MOST 1048576: true; the input reads as it did. -/
def fnExactTurnsOfOrderUptoRow : OpenClaim := { program := "ytihhiolflbieaaa", sum := "6d2aff386aa00db54c2756f6633045bf2c9c075c650b21d07089a0783930cdf8", func := "loop.example/g01304/laws.FnExactTurnsOfOrder", spec := "fnExactTurnsOfOrder", apart := false, narrowed := true }
def FnExactTurnsOfOrderUptoSaid : Prop := fnExactTurnsOfOrderUptoRow.holds Try.pinned (OpenSpec.upto fnExactTurnsOfOrderSpec)

/-- 'laws.FnExactFirstKnobs', WHERE WHAT IT READS IS OF BULK AT MOST 1048576: true; the input reads as it did. -/
def fnExactFirstKnobsUptoRow : OpenClaim := { program := "ytihhiolflbieaaa", sum := "6d2aff386aa00db54c2756f6633045bf2c9c075c650b21d07089a0783930cdf8", func := "loop.example/g01304/laws.FnExactFirstKnobs", spec := "fnExactFirstKnobs", recurses := true, apart := false, narrowed := true }
def FnExactFirstKnobsUptoSaid : Prop := fnExactFirstKnobsUptoRow.holds Try.pinned (OpenSpec.upto fnExactFirstKnobsSpec)

/-- 'laws.FnExactCodesOfRing', WHERE WHAT IT READS IS OF BULK AT MOST 1048576: true; the input reads as it did. -/
def fnExactCodesOfRingUptoRow : OpenClaim := { program := "ytihhiolflbieaaa", sum := "6d2aff386aa00db54c2756f6633045bf2c9c075c650b21d07089a0783930cdf8", func := "loop.example/g01304/laws.FnExactCodesOfRing", spec := "fnExactCodesOfRing", recurses := true, apart := false, narrowed := true }
def FnExactCodesOfRingUptoSaid : Prop := fnExactCodesOfRingUptoRow.holds Try.pinned (OpenSpec.upto fnExactCodesOfRingSpec)

/-- 'laws.FnExactCountClosed', WHERE WHAT IT READS IS OF BULK AT MOST 1048576: true; the input reads as it did. -/
def fnExactCountClosedUptoRow : OpenClaim := { program := "ytihhiolflbieaaa", sum := "6d2aff386aa00db54c2756f6633045bf2c9c075c650b21d07089a0783930cdf8", func := "loop.example/g01304/laws.FnExactCountClosed", spec := "fnExactCountClosed", unfollowed := true, recurses := true, apart := false, narrowed := true }
def FnExactCountClosedUptoSaid : Prop := fnExactCountClosedUptoRow.holds Try.pinned (OpenSpec.upto fnExactCountClosedSpec)

/-- 'laws.FnExactCountWhole', WHERE WHAT IT READS IS OF BULK AT MOST 1048576: true; the input reads as it did. -/
def fnExactCountWholeUptoRow : OpenClaim := { program := "ytihhiolflbieaaa", sum := "6d2aff386aa00db54c2756f6633045bf2c9c075c650b21d07089a0783930cdf8", func := "loop.example/g01304/laws.FnExactCountWhole", spec := "fnExactCountWhole", unfollowed := true, recurses := true, apart := false, narrowed := true }
def FnExactCountWholeUptoSaid : Prop := fnExactCountWholeUptoRow.holds Try.pinned (OpenSpec.upto fnExactCountWholeSpec)

/-- 'laws.FnExactLiveNext', WHERE WHAT IT READS IS OF BULK AT MOST 1048576: true; the input reads as it did. -/
def fnExactLiveNextUptoRow : OpenClaim := { program := "ytihhiolflbieaaa", sum := "6d2aff386aa00db54c2756f6633045bf2c9c075c650b21d07089a0783930cdf8", func := "loop.example/g01304/laws.FnExactLiveNext", spec := "fnExactLiveNext", unfollowed := true, recurses := true, apart := false, narrowed := true }
def FnExactLiveNextUptoSaid : Prop := fnExactLiveNextUptoRow.holds Try.pinned (OpenSpec.upto fnExactLiveNextSpec)

/-- 'laws.FnExactFirstWhole', WHERE WHAT IT READS IS OF BULK AT MOST 1048576: true; the input reads as it did. -/
def fnExactFirstWholeUptoRow : OpenClaim := { program := "ytihhiolflbieaaa", sum := "6d2aff386aa00db54c2756f6633045bf2c9c075c650b21d07089a0783930cdf8", func := "loop.example/g01304/laws.FnExactFirstWhole", spec := "fnExactFirstWhole", unfollowed := true, recurses := true, apart := false, narrowed := true }
def FnExactFirstWholeUptoSaid : Prop := fnExactFirstWholeUptoRow.holds Try.pinned (OpenSpec.upto fnExactFirstWholeSpec)

/-- 'laws.FnExactNeededCodes', WHERE WHAT IT READS IS OF BULK AT MOST 1048576: true; the input reads as it did. -/
def fnExactNeededCodesUptoRow : OpenClaim := { program := "ytihhiolflbieaaa", sum := "6d2aff386aa00db54c2756f6633045bf2c9c075c650b21d07089a0783930cdf8", func := "loop.example/g01304/laws.FnExactNeededCodes", spec := "fnExactNeededCodes", unfollowed := true, recurses := true, apart := false, narrowed := true }
def FnExactNeededCodesUptoSaid : Prop := fnExactNeededCodesUptoRow.holds Try.pinned (OpenSpec.upto fnExactNeededCodesSpec)

end Rows
end Go.Proofs.Ytihhiolflbieaaa
