/-
  No cell of these rows narrows 'for every input' (looked for: loops, veiled, ifaces, maps, wideKeys, modest, calm, conditions, laid).
  DERIVED. THE GIVEN ROWS OF THIS SEAT. 12 by the template 'for every input the law returns true; each argument reads behind the call as it read before'; 0 by the template 'total and deterministic' (their statements: YtolgccbgmnlkbaaTotals.lean).
  GIVEN WITH THE SEED: the statements are not yours to turn. If you find one false, say at which input.
  Laid BY PROGRAM, IN A SANDBOX (cutbox-rows.mjs): the forced cells as the released guide's own fill.sh prints them over the translation 41d7ae8a35f4aa50… (all of the seat's roots in one cut). By AI agents, Wed Nov 11 2026. No macro, syntax, notation, axiom, sorry.
-/
import Derived.Test.YtolgccbgmnlkbaaChecked
import GoSem.Claim
import GoSem.ClaimJoined
import GoSem.ClaimMapViews
import Derived.JoinedTies
import Derived.KernelRfl
namespace Go.Proofs.Ytolgccbgmnlkbaa
/- THE CELL 'sum', in the pinned program and in every row, IS THE sha256 OF THE DUMP (.gsa) THAT YtolgccbgmnlkbaaProg.lean LOADS. Nothing in Lean hashes anything: it is a label: what it is worth is what the hold of that sum in a sandbox is worth. -/
noncomputable def Try.pinned : Pinned := { name := "ytolgccbgmnlkbaa", sum := "41d7ae8a35f4aa507e250e1afd9e6775e9aaa6ed97be5468d36d556c3360387f", checked := Try.checked }
namespace Rows
def none {H : Type} : Left H := { results := [], args := [] }

/-- 'laws.FnExactCountLeastWords': WHATEVER THE INPUT: true; the input reads as it did. -/
def fnExactCountLeastWordsSpec : ChangeSpec := { name := "fnExactCountLeastWords", fn := fun _ => fun
  | [d1, d2] => { results := [.lit (.bool true)], args := [d1, d2] }
  | _ => none }
def fnExactCountLeastWordsRow : OpenClaim := { program := "ytolgccbgmnlkbaa", sum := "41d7ae8a35f4aa507e250e1afd9e6775e9aaa6ed97be5468d36d556c3360387f", func := "loop.example/g01304/laws.FnExactCountLeastWords", spec := "fnExactCountLeastWords", recurses := true, apart := false }
def FnExactCountLeastWordsSaid : Prop := fnExactCountLeastWordsRow.holds Try.pinned (OpenSpec.ofChange fnExactCountLeastWordsSpec)

/-- ITS FALSE NEIGHBOUR: 'it returns false'. Refute it at one input. -/
def fnExactCountLeastWordsWrong : ChangeSpec := { name := "fnExactCountLeastWords", fn := fun _ => fun
  | [d1, d2] => { results := [.lit (.bool false)], args := [d1, d2] }
  | _ => none }
def FnExactCountLeastWordsWrongFalsely : Prop := fnExactCountLeastWordsRow.holds Try.pinned (OpenSpec.ofChange fnExactCountLeastWordsWrong)

/-- 'laws.FnExactWheelTurns': WHATEVER THE INPUT: true; the input reads as it did. -/
def fnExactWheelTurnsSpec : ChangeSpec := { name := "fnExactWheelTurns", fn := fun _ => fun
  | [d] => { results := [.lit (.bool true)], args := [d] }
  | _ => none }
def fnExactWheelTurnsRow : OpenClaim := { program := "ytolgccbgmnlkbaa", sum := "41d7ae8a35f4aa507e250e1afd9e6775e9aaa6ed97be5468d36d556c3360387f", func := "loop.example/g01304/laws.FnExactWheelTurns", spec := "fnExactWheelTurns", apart := false }
def FnExactWheelTurnsSaid : Prop := fnExactWheelTurnsRow.holds Try.pinned (OpenSpec.ofChange fnExactWheelTurnsSpec)

/-- ITS FALSE NEIGHBOUR: 'it returns false'. Refute it at one input. -/
def fnExactWheelTurnsWrong : ChangeSpec := { name := "fnExactWheelTurns", fn := fun _ => fun
  | [d] => { results := [.lit (.bool false)], args := [d] }
  | _ => none }
def FnExactWheelTurnsWrongFalsely : Prop := fnExactWheelTurnsRow.holds Try.pinned (OpenSpec.ofChange fnExactWheelTurnsWrong)

/-- 'laws.FnExactCountRings': WHATEVER THE INPUT: true; the input reads as it did. -/
def fnExactCountRingsSpec : ChangeSpec := { name := "fnExactCountRings", fn := fun _ => fun
  | [d] => { results := [.lit (.bool true)], args := [d] }
  | _ => none }
def fnExactCountRingsRow : OpenClaim := { program := "ytolgccbgmnlkbaa", sum := "41d7ae8a35f4aa507e250e1afd9e6775e9aaa6ed97be5468d36d556c3360387f", func := "loop.example/g01304/laws.FnExactCountRings", spec := "fnExactCountRings", apart := false }
def FnExactCountRingsSaid : Prop := fnExactCountRingsRow.holds Try.pinned (OpenSpec.ofChange fnExactCountRingsSpec)

/-- ITS FALSE NEIGHBOUR: 'it returns false'. Refute it at one input. -/
def fnExactCountRingsWrong : ChangeSpec := { name := "fnExactCountRings", fn := fun _ => fun
  | [d] => { results := [.lit (.bool false)], args := [d] }
  | _ => none }
def FnExactCountRingsWrongFalsely : Prop := fnExactCountRingsRow.holds Try.pinned (OpenSpec.ofChange fnExactCountRingsWrong)

/-- 'laws.FnExactForthRank': WHATEVER THE INPUT: true; the input reads as it did. -/
def fnExactForthRankSpec : ChangeSpec := { name := "fnExactForthRank", fn := fun _ => fun
  | [d1, d2] => { results := [.lit (.bool true)], args := [d1, d2] }
  | _ => none }
def fnExactForthRankRow : OpenClaim := { program := "ytolgccbgmnlkbaa", sum := "41d7ae8a35f4aa507e250e1afd9e6775e9aaa6ed97be5468d36d556c3360387f", func := "loop.example/g01304/laws.FnExactForthRank", spec := "fnExactForthRank", unfollowed := true, recurses := true, apart := false }
def FnExactForthRankSaid : Prop := fnExactForthRankRow.holds Try.pinned (OpenSpec.ofChange fnExactForthRankSpec)

/-- ITS FALSE NEIGHBOUR: 'it returns false'. Refute it at one input. -/
def fnExactForthRankWrong : ChangeSpec := { name := "fnExactForthRank", fn := fun _ => fun
  | [d1, d2] => { results := [.lit (.bool false)], args := [d1, d2] }
  | _ => none }
def FnExactForthRankWrongFalsely : Prop := fnExactForthRankRow.holds Try.pinned (OpenSpec.ofChange fnExactForthRankWrong)

/-- 'laws.FnExactRoundRank': WHATEVER THE INPUT: true; the input reads as it did. -/
def fnExactRoundRankSpec : ChangeSpec := { name := "fnExactRoundRank", fn := fun _ => fun
  | [d1, d2] => { results := [.lit (.bool true)], args := [d1, d2] }
  | _ => none }
def fnExactRoundRankRow : OpenClaim := { program := "ytolgccbgmnlkbaa", sum := "41d7ae8a35f4aa507e250e1afd9e6775e9aaa6ed97be5468d36d556c3360387f", func := "loop.example/g01304/laws.FnExactRoundRank", spec := "fnExactRoundRank", apart := false }
def FnExactRoundRankSaid : Prop := fnExactRoundRankRow.holds Try.pinned (OpenSpec.ofChange fnExactRoundRankSpec)

/-- ITS FALSE NEIGHBOUR: 'it returns false'. Refute it at one input. -/
def fnExactRoundRankWrong : ChangeSpec := { name := "fnExactRoundRank", fn := fun _ => fun
  | [d1, d2] => { results := [.lit (.bool false)], args := [d1, d2] }
  | _ => none }
def FnExactRoundRankWrongFalsely : Prop := fnExactRoundRankRow.holds Try.pinned (OpenSpec.ofChange fnExactRoundRankWrong)

/-- 'laws.FnExactForthCode': WHATEVER THE INPUT: true; the input reads as it did. -/
def fnExactForthCodeSpec : ChangeSpec := { name := "fnExactForthCode", fn := fun _ => fun
  | [d1, d2] => { results := [.lit (.bool true)], args := [d1, d2] }
  | _ => none }
def fnExactForthCodeRow : OpenClaim := { program := "ytolgccbgmnlkbaa", sum := "41d7ae8a35f4aa507e250e1afd9e6775e9aaa6ed97be5468d36d556c3360387f", func := "loop.example/g01304/laws.FnExactForthCode", spec := "fnExactForthCode", recurses := true, apart := false }
def FnExactForthCodeSaid : Prop := fnExactForthCodeRow.holds Try.pinned (OpenSpec.ofChange fnExactForthCodeSpec)

/-- ITS FALSE NEIGHBOUR: 'it returns false'. Refute it at one input. -/
def fnExactForthCodeWrong : ChangeSpec := { name := "fnExactForthCode", fn := fun _ => fun
  | [d1, d2] => { results := [.lit (.bool false)], args := [d1, d2] }
  | _ => none }
def FnExactForthCodeWrongFalsely : Prop := fnExactForthCodeRow.holds Try.pinned (OpenSpec.ofChange fnExactForthCodeWrong)

/-- 'laws.FnExactRoundCode': WHATEVER THE INPUT: true; the input reads as it did. -/
def fnExactRoundCodeSpec : ChangeSpec := { name := "fnExactRoundCode", fn := fun _ => fun
  | [d1, d2] => { results := [.lit (.bool true)], args := [d1, d2] }
  | _ => none }
def fnExactRoundCodeRow : OpenClaim := { program := "ytolgccbgmnlkbaa", sum := "41d7ae8a35f4aa507e250e1afd9e6775e9aaa6ed97be5468d36d556c3360387f", func := "loop.example/g01304/laws.FnExactRoundCode", spec := "fnExactRoundCode", recurses := true, apart := false }
def FnExactRoundCodeSaid : Prop := fnExactRoundCodeRow.holds Try.pinned (OpenSpec.ofChange fnExactRoundCodeSpec)

/-- ITS FALSE NEIGHBOUR: 'it returns false'. Refute it at one input. -/
def fnExactRoundCodeWrong : ChangeSpec := { name := "fnExactRoundCode", fn := fun _ => fun
  | [d1, d2] => { results := [.lit (.bool false)], args := [d1, d2] }
  | _ => none }
def FnExactRoundCodeWrongFalsely : Prop := fnExactRoundCodeRow.holds Try.pinned (OpenSpec.ofChange fnExactRoundCodeWrong)

/-- 'laws.FnExactLeastWords': WHATEVER THE INPUT: true; the input reads as it did. -/
def fnExactLeastWordsSpec : ChangeSpec := { name := "fnExactLeastWords", fn := fun _ => fun
  | [d] => { results := [.lit (.bool true)], args := [d] }
  | _ => none }
def fnExactLeastWordsRow : OpenClaim := { program := "ytolgccbgmnlkbaa", sum := "41d7ae8a35f4aa507e250e1afd9e6775e9aaa6ed97be5468d36d556c3360387f", func := "loop.example/g01304/laws.FnExactLeastWords", spec := "fnExactLeastWords", unfollowed := true, recurses := true, apart := false }
def FnExactLeastWordsSaid : Prop := fnExactLeastWordsRow.holds Try.pinned (OpenSpec.ofChange fnExactLeastWordsSpec)

/-- ITS FALSE NEIGHBOUR: 'it returns false'. Refute it at one input. -/
def fnExactLeastWordsWrong : ChangeSpec := { name := "fnExactLeastWords", fn := fun _ => fun
  | [d] => { results := [.lit (.bool false)], args := [d] }
  | _ => none }
def FnExactLeastWordsWrongFalsely : Prop := fnExactLeastWordsRow.holds Try.pinned (OpenSpec.ofChange fnExactLeastWordsWrong)

/-- 'laws.FnExactForthPart': WHATEVER THE INPUT: true; the input reads as it did. -/
def fnExactForthPartSpec : ChangeSpec := { name := "fnExactForthPart", fn := fun _ => fun
  | [d1, d2, d3] => { results := [.lit (.bool true)], args := [d1, d2, d3] }
  | _ => none }
def fnExactForthPartRow : OpenClaim := { program := "ytolgccbgmnlkbaa", sum := "41d7ae8a35f4aa507e250e1afd9e6775e9aaa6ed97be5468d36d556c3360387f", func := "loop.example/g01304/laws.FnExactForthPart", spec := "fnExactForthPart", recurses := true, apart := false }
def FnExactForthPartSaid : Prop := fnExactForthPartRow.holds Try.pinned (OpenSpec.ofChange fnExactForthPartSpec)

/-- ITS FALSE NEIGHBOUR: 'it returns false'. Refute it at one input. -/
def fnExactForthPartWrong : ChangeSpec := { name := "fnExactForthPart", fn := fun _ => fun
  | [d1, d2, d3] => { results := [.lit (.bool false)], args := [d1, d2, d3] }
  | _ => none }
def FnExactForthPartWrongFalsely : Prop := fnExactForthPartRow.holds Try.pinned (OpenSpec.ofChange fnExactForthPartWrong)

/-- 'laws.FnExactTurnInRound': WHATEVER THE INPUT: true; the input reads as it did. -/
def fnExactTurnInRoundSpec : ChangeSpec := { name := "fnExactTurnInRound", fn := fun _ => fun
  | [d1, d2] => { results := [.lit (.bool true)], args := [d1, d2] }
  | _ => none }
def fnExactTurnInRoundRow : OpenClaim := { program := "ytolgccbgmnlkbaa", sum := "41d7ae8a35f4aa507e250e1afd9e6775e9aaa6ed97be5468d36d556c3360387f", func := "loop.example/g01304/laws.FnExactTurnInRound", spec := "fnExactTurnInRound", recurses := true, apart := false }
def FnExactTurnInRoundSaid : Prop := fnExactTurnInRoundRow.holds Try.pinned (OpenSpec.ofChange fnExactTurnInRoundSpec)

/-- ITS FALSE NEIGHBOUR: 'it returns false'. Refute it at one input. -/
def fnExactTurnInRoundWrong : ChangeSpec := { name := "fnExactTurnInRound", fn := fun _ => fun
  | [d1, d2] => { results := [.lit (.bool false)], args := [d1, d2] }
  | _ => none }
def FnExactTurnInRoundWrongFalsely : Prop := fnExactTurnInRoundRow.holds Try.pinned (OpenSpec.ofChange fnExactTurnInRoundWrong)

/-- 'laws.FnExactTurnInForth': WHATEVER THE INPUT: true; the input reads as it did. -/
def fnExactTurnInForthSpec : ChangeSpec := { name := "fnExactTurnInForth", fn := fun _ => fun
  | [d1, d2] => { results := [.lit (.bool true)], args := [d1, d2] }
  | _ => none }
def fnExactTurnInForthRow : OpenClaim := { program := "ytolgccbgmnlkbaa", sum := "41d7ae8a35f4aa507e250e1afd9e6775e9aaa6ed97be5468d36d556c3360387f", func := "loop.example/g01304/laws.FnExactTurnInForth", spec := "fnExactTurnInForth", recurses := true, apart := false }
def FnExactTurnInForthSaid : Prop := fnExactTurnInForthRow.holds Try.pinned (OpenSpec.ofChange fnExactTurnInForthSpec)

/-- ITS FALSE NEIGHBOUR: 'it returns false'. Refute it at one input. -/
def fnExactTurnInForthWrong : ChangeSpec := { name := "fnExactTurnInForth", fn := fun _ => fun
  | [d1, d2] => { results := [.lit (.bool false)], args := [d1, d2] }
  | _ => none }
def FnExactTurnInForthWrongFalsely : Prop := fnExactTurnInForthRow.holds Try.pinned (OpenSpec.ofChange fnExactTurnInForthWrong)

/-- 'laws.FnExactRoundPart': WHATEVER THE INPUT: true; the input reads as it did. -/
def fnExactRoundPartSpec : ChangeSpec := { name := "fnExactRoundPart", fn := fun _ => fun
  | [d1, d2, d3] => { results := [.lit (.bool true)], args := [d1, d2, d3] }
  | _ => none }
def fnExactRoundPartRow : OpenClaim := { program := "ytolgccbgmnlkbaa", sum := "41d7ae8a35f4aa507e250e1afd9e6775e9aaa6ed97be5468d36d556c3360387f", func := "loop.example/g01304/laws.FnExactRoundPart", spec := "fnExactRoundPart", recurses := true, apart := false }
def FnExactRoundPartSaid : Prop := fnExactRoundPartRow.holds Try.pinned (OpenSpec.ofChange fnExactRoundPartSpec)

/-- ITS FALSE NEIGHBOUR: 'it returns false'. Refute it at one input. -/
def fnExactRoundPartWrong : ChangeSpec := { name := "fnExactRoundPart", fn := fun _ => fun
  | [d1, d2, d3] => { results := [.lit (.bool false)], args := [d1, d2, d3] }
  | _ => none }
def FnExactRoundPartWrongFalsely : Prop := fnExactRoundPartRow.holds Try.pinned (OpenSpec.ofChange fnExactRoundPartWrong)

/- THE SECOND FORM. 'bulk': how many values and letters a reading holds, each counted each time it is reached (what is shared counts as often as it is met; a slice's spare places count too). A statement '..UptoSaid' is the law's where the arguments, and the package variables that the reading takes, are together of bulk at most 1048576: NARROWER than '..Said'. Prove '..Said' where nothing that the law and all that it calls make is longer than what came in: it says more and counts as full. Else prove '..UptoSaid'. A law counts once. -/
mutual
def uptoBulk {H : Type} : DataW H → Nat
  | .lit (.string bytes) => bytes.length + 1
  | .lit _ => 1
  | .nil => 1
  | .ptr d => uptoBulk d + 1
  | .slice elems spare => uptoBulkAll elems + uptoBulkAll spare + 1
  | .agg parts => uptoBulkAll parts + 1
  | .iface _ d => uptoBulk d + 1
  | .map entries => uptoBulkEntries entries + 1
  | .held _ => 1
def uptoBulkAll {H : Type} : List (DataW H) → Nat
  | [] => 0
  | d :: r => uptoBulk d + uptoBulkAll r
def uptoBulkEntries {H : Type} : List (Lit × DataW H) → Nat
  | [] => 0
  | x :: r => uptoBulkEntry x + uptoBulkEntries r
def uptoBulkEntry {H : Type} : Lit × DataW H → Nat
  | (.string bytes, d) => bytes.length + uptoBulk d + 1
  | (_, d) => uptoBulk d + 1
 end
def uptoSmall : (H : Type) → List (DataW H) → Bool := fun _ ds => decide (uptoBulkAll ds ≤ 1048576)
def OpenSpec.upto (s : _root_.Go.ChangeSpec) : _root_.Go.OpenSpec := { _root_.Go.OpenSpec.ofChange s with cond := some uptoSmall }

/-- 'laws.FnExactCountLeastWords', WHERE WHAT IT READS IS OF BULK AT MOST 1048576: true; the input reads as it did. -/
def fnExactCountLeastWordsUptoRow : OpenClaim := { program := "ytolgccbgmnlkbaa", sum := "41d7ae8a35f4aa507e250e1afd9e6775e9aaa6ed97be5468d36d556c3360387f", func := "loop.example/g01304/laws.FnExactCountLeastWords", spec := "fnExactCountLeastWords", recurses := true, apart := false, narrowed := true }
def FnExactCountLeastWordsUptoSaid : Prop := fnExactCountLeastWordsUptoRow.holds Try.pinned (OpenSpec.upto fnExactCountLeastWordsSpec)

/-- 'laws.FnExactWheelTurns', WHERE WHAT IT READS IS OF BULK AT MOST 1048576: true; the input reads as it did. -/
def fnExactWheelTurnsUptoRow : OpenClaim := { program := "ytolgccbgmnlkbaa", sum := "41d7ae8a35f4aa507e250e1afd9e6775e9aaa6ed97be5468d36d556c3360387f", func := "loop.example/g01304/laws.FnExactWheelTurns", spec := "fnExactWheelTurns", apart := false, narrowed := true }
def FnExactWheelTurnsUptoSaid : Prop := fnExactWheelTurnsUptoRow.holds Try.pinned (OpenSpec.upto fnExactWheelTurnsSpec)

/-- 'laws.FnExactCountRings', WHERE WHAT IT READS IS OF BULK AT MOST 1048576: true; the input reads as it did. -/
def fnExactCountRingsUptoRow : OpenClaim := { program := "ytolgccbgmnlkbaa", sum := "41d7ae8a35f4aa507e250e1afd9e6775e9aaa6ed97be5468d36d556c3360387f", func := "loop.example/g01304/laws.FnExactCountRings", spec := "fnExactCountRings", apart := false, narrowed := true }
def FnExactCountRingsUptoSaid : Prop := fnExactCountRingsUptoRow.holds Try.pinned (OpenSpec.upto fnExactCountRingsSpec)

/-- 'laws.FnExactForthRank', WHERE WHAT IT READS IS OF BULK AT MOST 1048576: true; the input reads as it did. -/
def fnExactForthRankUptoRow : OpenClaim := { program := "ytolgccbgmnlkbaa", sum := "41d7ae8a35f4aa507e250e1afd9e6775e9aaa6ed97be5468d36d556c3360387f", func := "loop.example/g01304/laws.FnExactForthRank", spec := "fnExactForthRank", unfollowed := true, recurses := true, apart := false, narrowed := true }
def FnExactForthRankUptoSaid : Prop := fnExactForthRankUptoRow.holds Try.pinned (OpenSpec.upto fnExactForthRankSpec)

/-- 'laws.FnExactRoundRank', WHERE WHAT IT READS IS OF BULK AT MOST 1048576: true; the input reads as it did. -/
def fnExactRoundRankUptoRow : OpenClaim := { program := "ytolgccbgmnlkbaa", sum := "41d7ae8a35f4aa507e250e1afd9e6775e9aaa6ed97be5468d36d556c3360387f", func := "loop.example/g01304/laws.FnExactRoundRank", spec := "fnExactRoundRank", apart := false, narrowed := true }
def FnExactRoundRankUptoSaid : Prop := fnExactRoundRankUptoRow.holds Try.pinned (OpenSpec.upto fnExactRoundRankSpec)

/-- 'laws.FnExactForthCode', WHERE WHAT IT READS IS OF BULK AT MOST 1048576: true; the input reads as it did. -/
def fnExactForthCodeUptoRow : OpenClaim := { program := "ytolgccbgmnlkbaa", sum := "41d7ae8a35f4aa507e250e1afd9e6775e9aaa6ed97be5468d36d556c3360387f", func := "loop.example/g01304/laws.FnExactForthCode", spec := "fnExactForthCode", recurses := true, apart := false, narrowed := true }
def FnExactForthCodeUptoSaid : Prop := fnExactForthCodeUptoRow.holds Try.pinned (OpenSpec.upto fnExactForthCodeSpec)

/-- 'laws.FnExactRoundCode', WHERE WHAT IT READS IS OF BULK AT MOST 1048576: true; the input reads as it did. -/
def fnExactRoundCodeUptoRow : OpenClaim := { program := "ytolgccbgmnlkbaa", sum := "41d7ae8a35f4aa507e250e1afd9e6775e9aaa6ed97be5468d36d556c3360387f", func := "loop.example/g01304/laws.FnExactRoundCode", spec := "fnExactRoundCode", recurses := true, apart := false, narrowed := true }
def FnExactRoundCodeUptoSaid : Prop := fnExactRoundCodeUptoRow.holds Try.pinned (OpenSpec.upto fnExactRoundCodeSpec)

/-- 'laws.FnExactLeastWords', WHERE WHAT IT READS IS OF BULK AT MOST 1048576: true; the input reads as it did. -/
def fnExactLeastWordsUptoRow : OpenClaim := { program := "ytolgccbgmnlkbaa", sum := "41d7ae8a35f4aa507e250e1afd9e6775e9aaa6ed97be5468d36d556c3360387f", func := "loop.example/g01304/laws.FnExactLeastWords", spec := "fnExactLeastWords", unfollowed := true, recurses := true, apart := false, narrowed := true }
def FnExactLeastWordsUptoSaid : Prop := fnExactLeastWordsUptoRow.holds Try.pinned (OpenSpec.upto fnExactLeastWordsSpec)

/-- 'laws.FnExactForthPart', WHERE WHAT IT READS IS OF BULK AT MOST 1048576: true; the input reads as it did. -/
def fnExactForthPartUptoRow : OpenClaim := { program := "ytolgccbgmnlkbaa", sum := "41d7ae8a35f4aa507e250e1afd9e6775e9aaa6ed97be5468d36d556c3360387f", func := "loop.example/g01304/laws.FnExactForthPart", spec := "fnExactForthPart", recurses := true, apart := false, narrowed := true }
def FnExactForthPartUptoSaid : Prop := fnExactForthPartUptoRow.holds Try.pinned (OpenSpec.upto fnExactForthPartSpec)

/-- 'laws.FnExactTurnInRound', WHERE WHAT IT READS IS OF BULK AT MOST 1048576: true; the input reads as it did. -/
def fnExactTurnInRoundUptoRow : OpenClaim := { program := "ytolgccbgmnlkbaa", sum := "41d7ae8a35f4aa507e250e1afd9e6775e9aaa6ed97be5468d36d556c3360387f", func := "loop.example/g01304/laws.FnExactTurnInRound", spec := "fnExactTurnInRound", recurses := true, apart := false, narrowed := true }
def FnExactTurnInRoundUptoSaid : Prop := fnExactTurnInRoundUptoRow.holds Try.pinned (OpenSpec.upto fnExactTurnInRoundSpec)

/-- 'laws.FnExactTurnInForth', WHERE WHAT IT READS IS OF BULK AT MOST 1048576: true; the input reads as it did. -/
def fnExactTurnInForthUptoRow : OpenClaim := { program := "ytolgccbgmnlkbaa", sum := "41d7ae8a35f4aa507e250e1afd9e6775e9aaa6ed97be5468d36d556c3360387f", func := "loop.example/g01304/laws.FnExactTurnInForth", spec := "fnExactTurnInForth", recurses := true, apart := false, narrowed := true }
def FnExactTurnInForthUptoSaid : Prop := fnExactTurnInForthUptoRow.holds Try.pinned (OpenSpec.upto fnExactTurnInForthSpec)

/-- 'laws.FnExactRoundPart', WHERE WHAT IT READS IS OF BULK AT MOST 1048576: true; the input reads as it did. -/
def fnExactRoundPartUptoRow : OpenClaim := { program := "ytolgccbgmnlkbaa", sum := "41d7ae8a35f4aa507e250e1afd9e6775e9aaa6ed97be5468d36d556c3360387f", func := "loop.example/g01304/laws.FnExactRoundPart", spec := "fnExactRoundPart", recurses := true, apart := false, narrowed := true }
def FnExactRoundPartUptoSaid : Prop := fnExactRoundPartUptoRow.holds Try.pinned (OpenSpec.upto fnExactRoundPartSpec)

end Rows
end Go.Proofs.Ytolgccbgmnlkbaa
