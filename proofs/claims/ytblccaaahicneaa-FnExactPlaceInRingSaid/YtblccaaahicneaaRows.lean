/-
  No cell of these rows narrows 'for every input' (looked for: loops, veiled, ifaces, maps, wideKeys, modest, calm, conditions, laid).
  DERIVED. THE GIVEN ROWS OF THIS SEAT. 12 by the template 'for every input the law returns true; each argument reads behind the call as it read before'; 0 by the template 'total and deterministic' (their statements: YtblccaaahicneaaTotals.lean).
  GIVEN WITH THE SEED: the statements are not yours to turn. If you find one false, say at which input.
  Laid BY PROGRAM, IN A SANDBOX (cutbox-rows.mjs): the forced cells as the released guide's own fill.sh prints them over the translation df91d6e67a70e76d… (all of the seat's roots in one cut). By AI agents, Wed Nov 11 2026. No macro, syntax, notation, axiom, sorry.
-/
import Derived.Test.YtblccaaahicneaaChecked
import GoSem.Claim
import GoSem.ClaimJoined
import GoSem.ClaimMapViews
import Derived.JoinedTies
import Derived.KernelRfl
namespace Go.Proofs.Ytblccaaahicneaa
/- THE CELL 'sum', in the pinned program and in every row, IS THE sha256 OF THE DUMP (.gsa) THAT YtblccaaahicneaaProg.lean LOADS. Nothing in Lean hashes anything: it is a label: what it is worth is what the hold of that sum in a sandbox is worth. -/
noncomputable def Try.pinned : Pinned := { name := "ytblccaaahicneaa", sum := "df91d6e67a70e76dad519812baace7bcb2770f8fddfe64047850625a001bb7b5", checked := Try.checked }
namespace Rows
def none {H : Type} : Left H := { results := [], args := [] }

/-- 'laws.FnExactLeastRing': WHATEVER THE INPUT: true; the input reads as it did. -/
def fnExactLeastRingSpec : ChangeSpec := { name := "fnExactLeastRing", fn := fun _ => fun
  | [d] => { results := [.lit (.bool true)], args := [d] }
  | _ => none }
def fnExactLeastRingRow : OpenClaim := { program := "ytblccaaahicneaa", sum := "df91d6e67a70e76dad519812baace7bcb2770f8fddfe64047850625a001bb7b5", func := "loop.example/g01304/laws.FnExactLeastRing", spec := "fnExactLeastRing", inPlace := ["internal/abi.NoEscape", "internal/bytealg.MakeNoZero"], unfollowed := true, recurses := true, apart := false }
def FnExactLeastRingSaid : Prop := fnExactLeastRingRow.holds Try.pinned (OpenSpec.ofChange fnExactLeastRingSpec)

/-- ITS FALSE NEIGHBOUR: 'it returns false'. Refute it at one input. -/
def fnExactLeastRingWrong : ChangeSpec := { name := "fnExactLeastRing", fn := fun _ => fun
  | [d] => { results := [.lit (.bool false)], args := [d] }
  | _ => none }
def FnExactLeastRingWrongFalsely : Prop := fnExactLeastRingRow.holds Try.pinned (OpenSpec.ofChange fnExactLeastRingWrong)

/-- 'laws.FnExactOpeningText': WHATEVER THE INPUT: true; the input reads as it did. -/
def fnExactOpeningTextSpec : ChangeSpec := { name := "fnExactOpeningText", fn := fun _ => fun
  | [d] => { results := [.lit (.bool true)], args := [d] }
  | _ => none }
def fnExactOpeningTextRow : OpenClaim := { program := "ytblccaaahicneaa", sum := "df91d6e67a70e76dad519812baace7bcb2770f8fddfe64047850625a001bb7b5", func := "loop.example/g01304/laws.FnExactOpeningText", spec := "fnExactOpeningText", inPlace := ["internal/abi.NoEscape", "internal/bytealg.MakeNoZero"], unfollowed := true, recurses := true, apart := false }
def FnExactOpeningTextSaid : Prop := fnExactOpeningTextRow.holds Try.pinned (OpenSpec.ofChange fnExactOpeningTextSpec)

/-- ITS FALSE NEIGHBOUR: 'it returns false'. Refute it at one input. -/
def fnExactOpeningTextWrong : ChangeSpec := { name := "fnExactOpeningText", fn := fun _ => fun
  | [d] => { results := [.lit (.bool false)], args := [d] }
  | _ => none }
def FnExactOpeningTextWrongFalsely : Prop := fnExactOpeningTextRow.holds Try.pinned (OpenSpec.ofChange fnExactOpeningTextWrong)

/-- 'laws.FnExactGreatestRing': WHATEVER THE INPUT: true; the input reads as it did. -/
def fnExactGreatestRingSpec : ChangeSpec := { name := "fnExactGreatestRing", fn := fun _ => fun
  | [d] => { results := [.lit (.bool true)], args := [d] }
  | _ => none }
def fnExactGreatestRingRow : OpenClaim := { program := "ytblccaaahicneaa", sum := "df91d6e67a70e76dad519812baace7bcb2770f8fddfe64047850625a001bb7b5", func := "loop.example/g01304/laws.FnExactGreatestRing", spec := "fnExactGreatestRing", inPlace := ["internal/abi.NoEscape", "internal/bytealg.MakeNoZero"], unfollowed := true, recurses := true, apart := false }
def FnExactGreatestRingSaid : Prop := fnExactGreatestRingRow.holds Try.pinned (OpenSpec.ofChange fnExactGreatestRingSpec)

/-- ITS FALSE NEIGHBOUR: 'it returns false'. Refute it at one input. -/
def fnExactGreatestRingWrong : ChangeSpec := { name := "fnExactGreatestRing", fn := fun _ => fun
  | [d] => { results := [.lit (.bool false)], args := [d] }
  | _ => none }
def FnExactGreatestRingWrongFalsely : Prop := fnExactGreatestRingRow.holds Try.pinned (OpenSpec.ofChange fnExactGreatestRingWrong)

/-- 'laws.FnExactCodeAtPlace': WHATEVER THE INPUT: true; the input reads as it did. -/
def fnExactCodeAtPlaceSpec : ChangeSpec := { name := "fnExactCodeAtPlace", fn := fun _ => fun
  | [d1, d2] => { results := [.lit (.bool true)], args := [d1, d2] }
  | _ => none }
def fnExactCodeAtPlaceRow : OpenClaim := { program := "ytblccaaahicneaa", sum := "df91d6e67a70e76dad519812baace7bcb2770f8fddfe64047850625a001bb7b5", func := "loop.example/g01304/laws.FnExactCodeAtPlace", spec := "fnExactCodeAtPlace", inPlace := ["internal/abi.NoEscape", "internal/bytealg.MakeNoZero"], unfollowed := true, recurses := true, apart := false }
def FnExactCodeAtPlaceSaid : Prop := fnExactCodeAtPlaceRow.holds Try.pinned (OpenSpec.ofChange fnExactCodeAtPlaceSpec)

/-- ITS FALSE NEIGHBOUR: 'it returns false'. Refute it at one input. -/
def fnExactCodeAtPlaceWrong : ChangeSpec := { name := "fnExactCodeAtPlace", fn := fun _ => fun
  | [d1, d2] => { results := [.lit (.bool false)], args := [d1, d2] }
  | _ => none }
def FnExactCodeAtPlaceWrongFalsely : Prop := fnExactCodeAtPlaceRow.holds Try.pinned (OpenSpec.ofChange fnExactCodeAtPlaceWrong)

/-- 'laws.FnExactStepsToOpen': WHATEVER THE INPUT: true; the input reads as it did. -/
def fnExactStepsToOpenSpec : ChangeSpec := { name := "fnExactStepsToOpen", fn := fun _ => fun
  | [d1, d2, d3] => { results := [.lit (.bool true)], args := [d1, d2, d3] }
  | _ => none }
def fnExactStepsToOpenRow : OpenClaim := { program := "ytblccaaahicneaa", sum := "df91d6e67a70e76dad519812baace7bcb2770f8fddfe64047850625a001bb7b5", func := "loop.example/g01304/laws.FnExactStepsToOpen", spec := "fnExactStepsToOpen", inPlace := ["internal/bytealg.IndexByteString", "internal/bytealg.IndexString"], named := ["internal/bytealg.MaxLen"], apart := false }
def FnExactStepsToOpenSaid : Prop := fnExactStepsToOpenRow.holds Try.pinned (OpenSpec.ofChange fnExactStepsToOpenSpec)

/-- ITS FALSE NEIGHBOUR: 'it returns false'. Refute it at one input. -/
def fnExactStepsToOpenWrong : ChangeSpec := { name := "fnExactStepsToOpen", fn := fun _ => fun
  | [d1, d2, d3] => { results := [.lit (.bool false)], args := [d1, d2, d3] }
  | _ => none }
def FnExactStepsToOpenWrongFalsely : Prop := fnExactStepsToOpenRow.holds Try.pinned (OpenSpec.ofChange fnExactStepsToOpenWrong)

/-- 'laws.FnExactFirstMissed': WHATEVER THE INPUT: true; the input reads as it did. -/
def fnExactFirstMissedSpec : ChangeSpec := { name := "fnExactFirstMissed", fn := fun _ => fun
  | [d1, d2] => { results := [.lit (.bool true)], args := [d1, d2] }
  | _ => none }
def fnExactFirstMissedRow : OpenClaim := { program := "ytblccaaahicneaa", sum := "df91d6e67a70e76dad519812baace7bcb2770f8fddfe64047850625a001bb7b5", func := "loop.example/g01304/laws.FnExactFirstMissed", spec := "fnExactFirstMissed", inPlace := ["internal/bytealg.IndexByteString", "internal/bytealg.IndexString"], recurses := true, named := ["internal/bytealg.MaxLen"], apart := false }
def FnExactFirstMissedSaid : Prop := fnExactFirstMissedRow.holds Try.pinned (OpenSpec.ofChange fnExactFirstMissedSpec)

/-- ITS FALSE NEIGHBOUR: 'it returns false'. Refute it at one input. -/
def fnExactFirstMissedWrong : ChangeSpec := { name := "fnExactFirstMissed", fn := fun _ => fun
  | [d1, d2] => { results := [.lit (.bool false)], args := [d1, d2] }
  | _ => none }
def FnExactFirstMissedWrongFalsely : Prop := fnExactFirstMissedRow.holds Try.pinned (OpenSpec.ofChange fnExactFirstMissedWrong)

/-- 'laws.FnExactPlaceInRing': WHATEVER THE INPUT: true; the input reads as it did. -/
def fnExactPlaceInRingSpec : ChangeSpec := { name := "fnExactPlaceInRing", fn := fun _ => fun
  | [d1, d2] => { results := [.lit (.bool true)], args := [d1, d2] }
  | _ => none }
def fnExactPlaceInRingRow : OpenClaim := { program := "ytblccaaahicneaa", sum := "df91d6e67a70e76dad519812baace7bcb2770f8fddfe64047850625a001bb7b5", func := "loop.example/g01304/laws.FnExactPlaceInRing", spec := "fnExactPlaceInRing", inPlace := ["internal/abi.NoEscape", "internal/bytealg.MakeNoZero", "internal/bytealg.IndexByteString", "internal/bytealg.IndexString"], unfollowed := true, recurses := true, named := ["internal/bytealg.MaxLen"], apart := false }
def FnExactPlaceInRingSaid : Prop := fnExactPlaceInRingRow.holds Try.pinned (OpenSpec.ofChange fnExactPlaceInRingSpec)

/-- ITS FALSE NEIGHBOUR: 'it returns false'. Refute it at one input. -/
def fnExactPlaceInRingWrong : ChangeSpec := { name := "fnExactPlaceInRing", fn := fun _ => fun
  | [d1, d2] => { results := [.lit (.bool false)], args := [d1, d2] }
  | _ => none }
def FnExactPlaceInRingWrongFalsely : Prop := fnExactPlaceInRingRow.holds Try.pinned (OpenSpec.ofChange fnExactPlaceInRingWrong)

/-- 'laws.FnExactCountOpened': WHATEVER THE INPUT: true; the input reads as it did. -/
def fnExactCountOpenedSpec : ChangeSpec := { name := "fnExactCountOpened", fn := fun _ => fun
  | [d1, d2] => { results := [.lit (.bool true)], args := [d1, d2] }
  | _ => none }
def fnExactCountOpenedRow : OpenClaim := { program := "ytblccaaahicneaa", sum := "df91d6e67a70e76dad519812baace7bcb2770f8fddfe64047850625a001bb7b5", func := "loop.example/g01304/laws.FnExactCountOpened", spec := "fnExactCountOpened", recurses := true, apart := false }
def FnExactCountOpenedSaid : Prop := fnExactCountOpenedRow.holds Try.pinned (OpenSpec.ofChange fnExactCountOpenedSpec)

/-- ITS FALSE NEIGHBOUR: 'it returns false'. Refute it at one input. -/
def fnExactCountOpenedWrong : ChangeSpec := { name := "fnExactCountOpened", fn := fun _ => fun
  | [d1, d2] => { results := [.lit (.bool false)], args := [d1, d2] }
  | _ => none }
def FnExactCountOpenedWrongFalsely : Prop := fnExactCountOpenedRow.holds Try.pinned (OpenSpec.ofChange fnExactCountOpenedWrong)

/-- 'laws.FnExactIsRing': WHATEVER THE INPUT: true; the input reads as it did. -/
def fnExactIsRingSpec : ChangeSpec := { name := "fnExactIsRing", fn := fun _ => fun
  | [d1, d2] => { results := [.lit (.bool true)], args := [d1, d2] }
  | _ => none }
def fnExactIsRingRow : OpenClaim := { program := "ytblccaaahicneaa", sum := "df91d6e67a70e76dad519812baace7bcb2770f8fddfe64047850625a001bb7b5", func := "loop.example/g01304/laws.FnExactIsRing", spec := "fnExactIsRing", recurses := true, apart := false }
def FnExactIsRingSaid : Prop := fnExactIsRingRow.holds Try.pinned (OpenSpec.ofChange fnExactIsRingSpec)

/-- ITS FALSE NEIGHBOUR: 'it returns false'. Refute it at one input. -/
def fnExactIsRingWrong : ChangeSpec := { name := "fnExactIsRing", fn := fun _ => fun
  | [d1, d2] => { results := [.lit (.bool false)], args := [d1, d2] }
  | _ => none }
def FnExactIsRingWrongFalsely : Prop := fnExactIsRingRow.holds Try.pinned (OpenSpec.ofChange fnExactIsRingWrong)

/-- 'laws.FnExactTurnedRing': WHATEVER THE INPUT: true; the input reads as it did. -/
def fnExactTurnedRingSpec : ChangeSpec := { name := "fnExactTurnedRing", fn := fun _ => fun
  | [d1, d2, d3] => { results := [.lit (.bool true)], args := [d1, d2, d3] }
  | _ => none }
def fnExactTurnedRingRow : OpenClaim := { program := "ytblccaaahicneaa", sum := "df91d6e67a70e76dad519812baace7bcb2770f8fddfe64047850625a001bb7b5", func := "loop.example/g01304/laws.FnExactTurnedRing", spec := "fnExactTurnedRing", recurses := true, apart := false }
def FnExactTurnedRingSaid : Prop := fnExactTurnedRingRow.holds Try.pinned (OpenSpec.ofChange fnExactTurnedRingSpec)

/-- ITS FALSE NEIGHBOUR: 'it returns false'. Refute it at one input. -/
def fnExactTurnedRingWrong : ChangeSpec := { name := "fnExactTurnedRing", fn := fun _ => fun
  | [d1, d2, d3] => { results := [.lit (.bool false)], args := [d1, d2, d3] }
  | _ => none }
def FnExactTurnedRingWrongFalsely : Prop := fnExactTurnedRingRow.holds Try.pinned (OpenSpec.ofChange fnExactTurnedRingWrong)

/-- 'laws.FnExactBackRing': WHATEVER THE INPUT: true; the input reads as it did. -/
def fnExactBackRingSpec : ChangeSpec := { name := "fnExactBackRing", fn := fun _ => fun
  | [d1, d2] => { results := [.lit (.bool true)], args := [d1, d2] }
  | _ => none }
def fnExactBackRingRow : OpenClaim := { program := "ytblccaaahicneaa", sum := "df91d6e67a70e76dad519812baace7bcb2770f8fddfe64047850625a001bb7b5", func := "loop.example/g01304/laws.FnExactBackRing", spec := "fnExactBackRing", recurses := true, apart := false }
def FnExactBackRingSaid : Prop := fnExactBackRingRow.holds Try.pinned (OpenSpec.ofChange fnExactBackRingSpec)

/-- ITS FALSE NEIGHBOUR: 'it returns false'. Refute it at one input. -/
def fnExactBackRingWrong : ChangeSpec := { name := "fnExactBackRing", fn := fun _ => fun
  | [d1, d2] => { results := [.lit (.bool false)], args := [d1, d2] }
  | _ => none }
def FnExactBackRingWrongFalsely : Prop := fnExactBackRingRow.holds Try.pinned (OpenSpec.ofChange fnExactBackRingWrong)

/-- 'laws.FnExactRaisedRing': WHATEVER THE INPUT: true; the input reads as it did. -/
def fnExactRaisedRingSpec : ChangeSpec := { name := "fnExactRaisedRing", fn := fun _ => fun
  | [d1, d2, d3] => { results := [.lit (.bool true)], args := [d1, d2, d3] }
  | _ => none }
def fnExactRaisedRingRow : OpenClaim := { program := "ytblccaaahicneaa", sum := "df91d6e67a70e76dad519812baace7bcb2770f8fddfe64047850625a001bb7b5", func := "loop.example/g01304/laws.FnExactRaisedRing", spec := "fnExactRaisedRing", recurses := true, apart := false }
def FnExactRaisedRingSaid : Prop := fnExactRaisedRingRow.holds Try.pinned (OpenSpec.ofChange fnExactRaisedRingSpec)

/-- ITS FALSE NEIGHBOUR: 'it returns false'. Refute it at one input. -/
def fnExactRaisedRingWrong : ChangeSpec := { name := "fnExactRaisedRing", fn := fun _ => fun
  | [d1, d2, d3] => { results := [.lit (.bool false)], args := [d1, d2, d3] }
  | _ => none }
def FnExactRaisedRingWrongFalsely : Prop := fnExactRaisedRingRow.holds Try.pinned (OpenSpec.ofChange fnExactRaisedRingWrong)

/- THE SECOND FORM. 'bulk': how many values and letters a reading holds, each counted each time it is reached (what is shared counts as often as it is met; a slice's spare places count too). A statement '..UptoSaid' is the law's where the arguments, and the package variables that the reading takes, are together of bulk at most 1048576: NARROWER than '..Said'. Prove '..Said' where nothing that the law and all that it calls make is longer than what came in: it says more and counts as full. Else prove '..UptoSaid'. A law counts once. -/
mutual
def uptoBulk {H : Type} : DataW H → Nat
  | .lit (.string bytes) => bytes.length + 1
  | .lit _ => 1
  | .nil => 1
  | .ptr d => uptoBulk d + 1
  | .slice elems spare => uptoBulkAll elems + uptoBulkAll spare + 1
  | .agg parts => uptoBulkAll parts + 1
  | .iface _ d => uptoBulk d + 1
  | .map entries => uptoBulkEntries entries + 1
  | .held _ => 1
def uptoBulkAll {H : Type} : List (DataW H) → Nat
  | [] => 0
  | d :: r => uptoBulk d + uptoBulkAll r
def uptoBulkEntries {H : Type} : List (Lit × DataW H) → Nat
  | [] => 0
  | x :: r => uptoBulkEntry x + uptoBulkEntries r
def uptoBulkEntry {H : Type} : Lit × DataW H → Nat
  | (.string bytes, d) => bytes.length + uptoBulk d + 1
  | (_, d) => uptoBulk d + 1
 end
def uptoSmall : (H : Type) → List (DataW H) → Bool := fun _ ds => decide (uptoBulkAll ds ≤ 1048576)
def OpenSpec.upto (s : _root_.Go.ChangeSpec) : _root_.Go.OpenSpec := { _root_.Go.OpenSpec.ofChange s with cond := some uptoSmall }

/-- 'laws.FnExactLeastRing', WHERE WHAT IT READS IS OF BULK AT MOST 1048576: true; the input reads as it did. -/
def fnExactLeastRingUptoRow : OpenClaim := { program := "ytblccaaahicneaa", sum := "df91d6e67a70e76dad519812baace7bcb2770f8fddfe64047850625a001bb7b5", func := "loop.example/g01304/laws.FnExactLeastRing", spec := "fnExactLeastRing", inPlace := ["internal/abi.NoEscape", "internal/bytealg.MakeNoZero"], unfollowed := true, recurses := true, apart := false, narrowed := true }
def FnExactLeastRingUptoSaid : Prop := fnExactLeastRingUptoRow.holds Try.pinned (OpenSpec.upto fnExactLeastRingSpec)

/-- 'laws.FnExactOpeningText', WHERE WHAT IT READS IS OF BULK AT MOST 1048576: true; the input reads as it did. -/
def fnExactOpeningTextUptoRow : OpenClaim := { program := "ytblccaaahicneaa", sum := "df91d6e67a70e76dad519812baace7bcb2770f8fddfe64047850625a001bb7b5", func := "loop.example/g01304/laws.FnExactOpeningText", spec := "fnExactOpeningText", inPlace := ["internal/abi.NoEscape", "internal/bytealg.MakeNoZero"], unfollowed := true, recurses := true, apart := false, narrowed := true }
def FnExactOpeningTextUptoSaid : Prop := fnExactOpeningTextUptoRow.holds Try.pinned (OpenSpec.upto fnExactOpeningTextSpec)

/-- 'laws.FnExactGreatestRing', WHERE WHAT IT READS IS OF BULK AT MOST 1048576: true; the input reads as it did. -/
def fnExactGreatestRingUptoRow : OpenClaim := { program := "ytblccaaahicneaa", sum := "df91d6e67a70e76dad519812baace7bcb2770f8fddfe64047850625a001bb7b5", func := "loop.example/g01304/laws.FnExactGreatestRing", spec := "fnExactGreatestRing", inPlace := ["internal/abi.NoEscape", "internal/bytealg.MakeNoZero"], unfollowed := true, recurses := true, apart := false, narrowed := true }
def FnExactGreatestRingUptoSaid : Prop := fnExactGreatestRingUptoRow.holds Try.pinned (OpenSpec.upto fnExactGreatestRingSpec)

/-- 'laws.FnExactCodeAtPlace', WHERE WHAT IT READS IS OF BULK AT MOST 1048576: true; the input reads as it did. -/
def fnExactCodeAtPlaceUptoRow : OpenClaim := { program := "ytblccaaahicneaa", sum := "df91d6e67a70e76dad519812baace7bcb2770f8fddfe64047850625a001bb7b5", func := "loop.example/g01304/laws.FnExactCodeAtPlace", spec := "fnExactCodeAtPlace", inPlace := ["internal/abi.NoEscape", "internal/bytealg.MakeNoZero"], unfollowed := true, recurses := true, apart := false, narrowed := true }
def FnExactCodeAtPlaceUptoSaid : Prop := fnExactCodeAtPlaceUptoRow.holds Try.pinned (OpenSpec.upto fnExactCodeAtPlaceSpec)

/-- 'laws.FnExactStepsToOpen', WHERE WHAT IT READS IS OF BULK AT MOST 1048576: true; the input reads as it did. -/
def fnExactStepsToOpenUptoRow : OpenClaim := { program := "ytblccaaahicneaa", sum := "df91d6e67a70e76dad519812baace7bcb2770f8fddfe64047850625a001bb7b5", func := "loop.example/g01304/laws.FnExactStepsToOpen", spec := "fnExactStepsToOpen", inPlace := ["internal/bytealg.IndexByteString", "internal/bytealg.IndexString"], named := ["internal/bytealg.MaxLen"], apart := false, narrowed := true }
def FnExactStepsToOpenUptoSaid : Prop := fnExactStepsToOpenUptoRow.holds Try.pinned (OpenSpec.upto fnExactStepsToOpenSpec)

/-- 'laws.FnExactFirstMissed', WHERE WHAT IT READS IS OF BULK AT MOST 1048576: true; the input reads as it did. -/
def fnExactFirstMissedUptoRow : OpenClaim := { program := "ytblccaaahicneaa", sum := "df91d6e67a70e76dad519812baace7bcb2770f8fddfe64047850625a001bb7b5", func := "loop.example/g01304/laws.FnExactFirstMissed", spec := "fnExactFirstMissed", inPlace := ["internal/bytealg.IndexByteString", "internal/bytealg.IndexString"], recurses := true, named := ["internal/bytealg.MaxLen"], apart := false, narrowed := true }
def FnExactFirstMissedUptoSaid : Prop := fnExactFirstMissedUptoRow.holds Try.pinned (OpenSpec.upto fnExactFirstMissedSpec)

/-- 'laws.FnExactPlaceInRing', WHERE WHAT IT READS IS OF BULK AT MOST 1048576: true; the input reads as it did. -/
def fnExactPlaceInRingUptoRow : OpenClaim := { program := "ytblccaaahicneaa", sum := "df91d6e67a70e76dad519812baace7bcb2770f8fddfe64047850625a001bb7b5", func := "loop.example/g01304/laws.FnExactPlaceInRing", spec := "fnExactPlaceInRing", inPlace := ["internal/abi.NoEscape", "internal/bytealg.MakeNoZero", "internal/bytealg.IndexByteString", "internal/bytealg.IndexString"], unfollowed := true, recurses := true, named := ["internal/bytealg.MaxLen"], apart := false, narrowed := true }
def FnExactPlaceInRingUptoSaid : Prop := fnExactPlaceInRingUptoRow.holds Try.pinned (OpenSpec.upto fnExactPlaceInRingSpec)

/-- 'laws.FnExactCountOpened', WHERE WHAT IT READS IS OF BULK AT MOST 1048576: true; the input reads as it did. -/
def fnExactCountOpenedUptoRow : OpenClaim := { program := "ytblccaaahicneaa", sum := "df91d6e67a70e76dad519812baace7bcb2770f8fddfe64047850625a001bb7b5", func := "loop.example/g01304/laws.FnExactCountOpened", spec := "fnExactCountOpened", recurses := true, apart := false, narrowed := true }
def FnExactCountOpenedUptoSaid : Prop := fnExactCountOpenedUptoRow.holds Try.pinned (OpenSpec.upto fnExactCountOpenedSpec)

/-- 'laws.FnExactIsRing', WHERE WHAT IT READS IS OF BULK AT MOST 1048576: true; the input reads as it did. -/
def fnExactIsRingUptoRow : OpenClaim := { program := "ytblccaaahicneaa", sum := "df91d6e67a70e76dad519812baace7bcb2770f8fddfe64047850625a001bb7b5", func := "loop.example/g01304/laws.FnExactIsRing", spec := "fnExactIsRing", recurses := true, apart := false, narrowed := true }
def FnExactIsRingUptoSaid : Prop := fnExactIsRingUptoRow.holds Try.pinned (OpenSpec.upto fnExactIsRingSpec)

/-- 'laws.FnExactTurnedRing', WHERE WHAT IT READS IS OF BULK AT MOST 1048576: true; the input reads as it did. -/
def fnExactTurnedRingUptoRow : OpenClaim := { program := "ytblccaaahicneaa", sum := "df91d6e67a70e76dad519812baace7bcb2770f8fddfe64047850625a001bb7b5", func := "loop.example/g01304/laws.FnExactTurnedRing", spec := "fnExactTurnedRing", recurses := true, apart := false, narrowed := true }
def FnExactTurnedRingUptoSaid : Prop := fnExactTurnedRingUptoRow.holds Try.pinned (OpenSpec.upto fnExactTurnedRingSpec)

/-- 'laws.FnExactBackRing', WHERE WHAT IT READS IS OF BULK AT MOST 1048576: true; the input reads as it did. -/
def fnExactBackRingUptoRow : OpenClaim := { program := "ytblccaaahicneaa", sum := "df91d6e67a70e76dad519812baace7bcb2770f8fddfe64047850625a001bb7b5", func := "loop.example/g01304/laws.FnExactBackRing", spec := "fnExactBackRing", recurses := true, apart := false, narrowed := true }
def FnExactBackRingUptoSaid : Prop := fnExactBackRingUptoRow.holds Try.pinned (OpenSpec.upto fnExactBackRingSpec)

/-- 'laws.FnExactRaisedRing', WHERE WHAT IT READS IS OF BULK AT MOST 1048576: true; the input reads as it did. -/
def fnExactRaisedRingUptoRow : OpenClaim := { program := "ytblccaaahicneaa", sum := "df91d6e67a70e76dad519812baace7bcb2770f8fddfe64047850625a001bb7b5", func := "loop.example/g01304/laws.FnExactRaisedRing", spec := "fnExactRaisedRing", recurses := true, apart := false, narrowed := true }
def FnExactRaisedRingUptoSaid : Prop := fnExactRaisedRingUptoRow.holds Try.pinned (OpenSpec.upto fnExactRaisedRingSpec)

end Rows
end Go.Proofs.Ytblccaaahicneaa
