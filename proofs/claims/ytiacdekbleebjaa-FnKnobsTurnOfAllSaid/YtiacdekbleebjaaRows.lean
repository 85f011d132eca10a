/-
  No cell of these rows narrows 'for every input' (looked for: loops, veiled, ifaces, maps, wideKeys, modest, calm, conditions, laid).
  DERIVED. THE GIVEN ROWS OF THIS SEAT. 3 by the template 'for every input the law returns true; each argument reads behind the call as it read before'; 0 by the template 'total and deterministic' (their statements: YtiacdekbleebjaaTotals.lean).
  GIVEN WITH THE SEED: the statements are not yours to turn. If you find one false, say at which input.
  Laid BY PROGRAM, IN A SANDBOX (cutbox-rows.mjs): the forced cells as the released guide's own fill.sh prints them over the translation 025a19e7f03b01aa… (all of the seat's roots in one cut). By AI agents, Wed Nov 11 2026. No macro, syntax, notation, axiom, sorry.
-/
import Derived.Test.YtiacdekbleebjaaChecked
import GoSem.Claim
import GoSem.ClaimJoined
import GoSem.ClaimMapViews
import Derived.JoinedTies
import Derived.KernelRfl
namespace Go.Proofs.Ytiacdekbleebjaa
/- THE CELL 'sum', in the pinned program and in every row, IS THE sha256 OF THE DUMP (.gsa) THAT YtiacdekbleebjaaProg.lean LOADS. Nothing in Lean hashes anything: it is a label: what it is worth is what the hold of that sum in a sandbox is worth. -/
noncomputable def Try.pinned : Pinned := { name := "ytiacdekbleebjaa", sum := "025a19e7f03b01aa0198bfb98a2ddf5c9ad3399b656185f13c126f4f27ed85a0", checked := Try.checked }
namespace Rows
def none {H : Type} : Left H := { results := [], args := [] }

/-- 'laws.FnExactFirstKnobs': WHATEVER THE INPUT: true; the input reads as it did. -/
def fnExactFirstKnobsSpec : ChangeSpec := { name := "fnExactFirstKnobs", fn := fun _ => fun
  | [d1, d2, d3] => { results := [.lit (.bool true)], args := [d1, d2, d3] }
  | _ => none }
def fnExactFirstKnobsRow : OpenClaim := { program := "ytiacdekbleebjaa", sum := "025a19e7f03b01aa0198bfb98a2ddf5c9ad3399b656185f13c126f4f27ed85a0", func := "loop.example/g01304/laws.FnExactFirstKnobs", spec := "fnExactFirstKnobs", recurses := true, apart := false }
def FnExactFirstKnobsSaid : Prop := fnExactFirstKnobsRow.holds Try.pinned (OpenSpec.ofChange fnExactFirstKnobsSpec)

/-- ITS FALSE NEIGHBOUR: 'it returns false'. Refute it at one input. -/
def fnExactFirstKnobsWrong : ChangeSpec := { name := "fnExactFirstKnobs", fn := fun _ => fun
  | [d1, d2, d3] => { results := [.lit (.bool false)], args := [d1, d2, d3] }
  | _ => none }
def FnExactFirstKnobsWrongFalsely : Prop := fnExactFirstKnobsRow.holds Try.pinned (OpenSpec.ofChange fnExactFirstKnobsWrong)

/-- 'laws.FnKnobsTurnOfAll': WHATEVER THE INPUT: true; the input reads as it did. -/
def fnKnobsTurnOfAllSpec : ChangeSpec := { name := "fnKnobsTurnOfAll", fn := fun _ => fun
  | [d1, d2, d3, d4, d5, d6, d7, d8, d9, d10] => { results := [.lit (.bool true)], args := [d1, d2, d3, d4, d5, d6, d7, d8, d9, d10] }
  | _ => none }
def fnKnobsTurnOfAllRow : OpenClaim := { program := "ytiacdekbleebjaa", sum := "025a19e7f03b01aa0198bfb98a2ddf5c9ad3399b656185f13c126f4f27ed85a0", func := "loop.example/g01304/laws.FnKnobsTurnOfAll", spec := "fnKnobsTurnOfAll", unfollowed := true, recurses := true, apart := false }
def FnKnobsTurnOfAllSaid : Prop := fnKnobsTurnOfAllRow.holds Try.pinned (OpenSpec.ofChange fnKnobsTurnOfAllSpec)

/-- ITS FALSE NEIGHBOUR: 'it returns false'. Refute it at one input. -/
def fnKnobsTurnOfAllWrong : ChangeSpec := { name := "fnKnobsTurnOfAll", fn := fun _ => fun
  | [d1, d2, d3, d4, d5, d6, d7, d8, d9, d10] => { results := [.lit (.bool false)], args := [d1, d2, d3, d4, d5, d6, d7, d8, d9, d10] }
  | _ => none }
def FnKnobsTurnOfAllWrongFalsely : Prop := fnKnobsTurnOfAllRow.holds Try.pinned (OpenSpec.ofChange fnKnobsTurnOfAllWrong)

/-- 'laws.FnKnobsTurn': WHATEVER THE INPUT: true; the input reads as it did. -/
def fnKnobsTurnSpec : ChangeSpec := { name := "fnKnobsTurn", fn := fun _ => fun
  | [d1, d2] => { results := [.lit (.bool true)], args := [d1, d2] }
  | _ => none }
def fnKnobsTurnRow : OpenClaim := { program := "ytiacdekbleebjaa", sum := "025a19e7f03b01aa0198bfb98a2ddf5c9ad3399b656185f13c126f4f27ed85a0", func := "loop.example/g01304/laws.FnKnobsTurn", spec := "fnKnobsTurn", unfollowed := true, recurses := true, apart := false }
def FnKnobsTurnSaid : Prop := fnKnobsTurnRow.holds Try.pinned (OpenSpec.ofChange fnKnobsTurnSpec)

/-- ITS FALSE NEIGHBOUR: 'it returns false'. Refute it at one input. -/
def fnKnobsTurnWrong : ChangeSpec := { name := "fnKnobsTurn", fn := fun _ => fun
  | [d1, d2] => { results := [.lit (.bool false)], args := [d1, d2] }
  | _ => none }
def FnKnobsTurnWrongFalsely : Prop := fnKnobsTurnRow.holds Try.pinned (OpenSpec.ofChange fnKnobsTurnWrong)

/- THE SECOND FORM. 'bulk': how many values and letters a reading holds, each counted each time it is reached (what is shared counts as often as it is met; a slice's spare places count too). A statement '..UptoSaid' is the law's where the arguments, and the package variables that the reading takes, are together of bulk at most 1048576: NARROWER than '..Said'. Prove '..Said' where nothing that the law and all that it calls make is longer than what came in: it says more and counts as full. Else prove '..UptoSaid'. A law counts once. -/
mutual
def uptoBulk {H : Type} : DataW H → Nat
  | .lit (.string bytes) => bytes.length + 1
  | .lit _ => 1
  | .nil => 1
  | .ptr d => uptoBulk d + 1
  | .slice elems spare => uptoBulkAll elems + uptoBulkAll spare + 1
  | .agg parts => uptoBulkAll parts + 1
  | .iface _ d => uptoBulk d + 1
  | .map entries => uptoBulkEntries entries + 1
  | .held _ => 1
def uptoBulkAll {H : Type} : List (DataW H) → Nat
  | [] => 0
  | d :: r => uptoBulk d + uptoBulkAll r
def uptoBulkEntries {H : Type} : List (Lit × DataW H) → Nat
  | [] => 0
  | x :: r => uptoBulkEntry x + uptoBulkEntries r
def uptoBulkEntry {H : Type} : Lit × DataW H → Nat
  | (.string bytes, d) => bytes.length + uptoBulk d + 1
  | (_, d) => uptoBulk d + 1
 end
def uptoSmall : (H : Type) → List (DataW H) → Bool := fun _ ds => decide (uptoBulkAll ds ≤ 1048576)
def OpenSpec.upto (s : _root_.Go.ChangeSpec) : _root_.Go.OpenSpec := { _root_.Go.OpenSpec.ofChange s with cond := some uptoSmall }

/-- 'laws.FnExactFirstKnobs', WHERE WHAT IT READS IS OF BULK AT MOST 1048576: true; the input reads as it did. -/
def fnExactFirstKnobsUptoRow : OpenClaim := { program := "ytiacdekbleebjaa", sum := "025a19e7f03b01aa0198bfb98a2ddf5c9ad3399b656185f13c126f4f27ed85a0", func := "loop.example/g01304/laws.FnExactFirstKnobs", spec := "fnExactFirstKnobs", recurses := true, apart := false, narrowed := true }
def FnExactFirstKnobsUptoSaid : Prop := fnExactFirstKnobsUptoRow.holds Try.pinned (OpenSpec.upto fnExactFirstKnobsSpec)

/-- 'laws.FnKnobsTurnOfAll', WHERE WHAT IT READS IS OF BULK AT MOST 1048576: true; the input reads as it did. -/
def fnKnobsTurnOfAllUptoRow : OpenClaim := { program := "ytiacdekbleebjaa", sum := "025a19e7f03b01aa0198bfb98a2ddf5c9ad3399b656185f13c126f4f27ed85a0", func := "loop.example/g01304/laws.FnKnobsTurnOfAll", spec := "fnKnobsTurnOfAll", unfollowed := true, recurses := true, apart := false, narrowed := true }
def FnKnobsTurnOfAllUptoSaid : Prop := fnKnobsTurnOfAllUptoRow.holds Try.pinned (OpenSpec.upto fnKnobsTurnOfAllSpec)

/-- 'laws.FnKnobsTurn', WHERE WHAT IT READS IS OF BULK AT MOST 1048576: true; the input reads as it did. -/
def fnKnobsTurnUptoRow : OpenClaim := { program := "ytiacdekbleebjaa", sum := "025a19e7f03b01aa0198bfb98a2ddf5c9ad3399b656185f13c126f4f27ed85a0", func := "loop.example/g01304/laws.FnKnobsTurn", spec := "fnKnobsTurn", unfollowed := true, recurses := true, apart := false, narrowed := true }
def FnKnobsTurnUptoSaid : Prop := fnKnobsTurnUptoRow.holds Try.pinned (OpenSpec.upto fnKnobsTurnSpec)

end Rows
end Go.Proofs.Ytiacdekbleebjaa
