/-
  No cell of these rows narrows 'for every input' (looked for: loops, veiled, ifaces, maps, wideKeys, modest, calm, conditions, laid).
  DERIVED. THE GIVEN ROWS OF THIS SEAT. 3 by the template 'for every input the law returns true; each argument reads behind the call as it read before'; 0 by the template 'total and deterministic' (their statements: YtijbngmlaggclaaTotals.lean).
  GIVEN WITH THE SEED: the statements are not yours to turn. If you find one false, say at which input.
  Laid BY PROGRAM, IN A SANDBOX (cutbox-rows.mjs): the forced cells as the released guide's own fill.sh prints them over the translation a304f92c73e8d933… (all of the seat's roots in one cut). By AI agents, Wed Nov 11 2026. No macro, syntax, notation, axiom, sorry.
-/
import Derived.Test.YtijbngmlaggclaaChecked
import GoSem.Claim
import GoSem.ClaimJoined
import GoSem.ClaimMapViews
import Derived.JoinedTies
import Derived.KernelRfl
namespace Go.Proofs.Ytijbngmlaggclaa
/- THE CELL 'sum', in the pinned program and in every row, IS THE sha256 OF THE DUMP (.gsa) THAT YtijbngmlaggclaaProg.lean LOADS. Nothing in Lean hashes anything: it is a label: what it is worth is what the hold of that sum in a sandbox is worth. -/
noncomputable def Try.pinned : Pinned := { name := "ytijbngmlaggclaa", sum := "a304f92c73e8d933868ae90bc46d10bbeb3d9e8d2aa1114db577f88b1df12bea", checked := Try.checked }
namespace Rows
def none {H : Type} : Left H := { results := [], args := [] }

/-- 'laws.FnExactForthRank': WHATEVER THE INPUT: true; the input reads as it did. -/
def fnExactForthRankSpec : ChangeSpec := { name := "fnExactForthRank", fn := fun _ => fun
  | [d1, d2] => { results := [.lit (.bool true)], args := [d1, d2] }
  | _ => none }
def fnExactForthRankRow : OpenClaim := { program := "ytijbngmlaggclaa", sum := "a304f92c73e8d933868ae90bc46d10bbeb3d9e8d2aa1114db577f88b1df12bea", func := "loop.example/g01304/laws.FnExactForthRank", spec := "fnExactForthRank", unfollowed := true, recurses := true, apart := false }
def FnExactForthRankSaid : Prop := fnExactForthRankRow.holds Try.pinned (OpenSpec.ofChange fnExactForthRankSpec)

/-- ITS FALSE NEIGHBOUR: 'it returns false'. Refute it at one input. -/
def fnExactForthRankWrong : ChangeSpec := { name := "fnExactForthRank", fn := fun _ => fun
  | [d1, d2] => { results := [.lit (.bool false)], args := [d1, d2] }
  | _ => none }
def FnExactForthRankWrongFalsely : Prop := fnExactForthRankRow.holds Try.pinned (OpenSpec.ofChange fnExactForthRankWrong)

/-- 'laws.FnOrdersTurnOfAll': WHATEVER THE INPUT: true; the input reads as it did. -/
def fnOrdersTurnOfAllSpec : ChangeSpec := { name := "fnOrdersTurnOfAll", fn := fun _ => fun
  | [d1, d2, d3, d4, d5, d6, d7, d8] => { results := [.lit (.bool true)], args := [d1, d2, d3, d4, d5, d6, d7, d8] }
  | _ => none }
def fnOrdersTurnOfAllRow : OpenClaim := { program := "ytijbngmlaggclaa", sum := "a304f92c73e8d933868ae90bc46d10bbeb3d9e8d2aa1114db577f88b1df12bea", func := "loop.example/g01304/laws.FnOrdersTurnOfAll", spec := "fnOrdersTurnOfAll", unfollowed := true, recurses := true, apart := false }
def FnOrdersTurnOfAllSaid : Prop := fnOrdersTurnOfAllRow.holds Try.pinned (OpenSpec.ofChange fnOrdersTurnOfAllSpec)

/-- ITS FALSE NEIGHBOUR: 'it returns false'. Refute it at one input. -/
def fnOrdersTurnOfAllWrong : ChangeSpec := { name := "fnOrdersTurnOfAll", fn := fun _ => fun
  | [d1, d2, d3, d4, d5, d6, d7, d8] => { results := [.lit (.bool false)], args := [d1, d2, d3, d4, d5, d6, d7, d8] }
  | _ => none }
def FnOrdersTurnOfAllWrongFalsely : Prop := fnOrdersTurnOfAllRow.holds Try.pinned (OpenSpec.ofChange fnOrdersTurnOfAllWrong)

/-- 'laws.FnOrdersTurn': WHATEVER THE INPUT: true; the input reads as it did. -/
def fnOrdersTurnSpec : ChangeSpec := { name := "fnOrdersTurn", fn := fun _ => fun
  | [d1, d2] => { results := [.lit (.bool true)], args := [d1, d2] }
  | _ => none }
def fnOrdersTurnRow : OpenClaim := { program := "ytijbngmlaggclaa", sum := "a304f92c73e8d933868ae90bc46d10bbeb3d9e8d2aa1114db577f88b1df12bea", func := "loop.example/g01304/laws.FnOrdersTurn", spec := "fnOrdersTurn", unfollowed := true, recurses := true, apart := false }
def FnOrdersTurnSaid : Prop := fnOrdersTurnRow.holds Try.pinned (OpenSpec.ofChange fnOrdersTurnSpec)

/-- ITS FALSE NEIGHBOUR: 'it returns false'. Refute it at one input. -/
def fnOrdersTurnWrong : ChangeSpec := { name := "fnOrdersTurn", fn := fun _ => fun
  | [d1, d2] => { results := [.lit (.bool false)], args := [d1, d2] }
  | _ => none }
def FnOrdersTurnWrongFalsely : Prop := fnOrdersTurnRow.holds Try.pinned (OpenSpec.ofChange fnOrdersTurnWrong)

/- THE SECOND FORM. 'bulk': how many values and letters a reading holds, each counted each time it is reached (what is shared counts as often as it is met; a slice's spare places count too). A statement '..UptoSaid' is the law's where the arguments, and the package variables that the reading takes, are together of bulk at most 1048576: NARROWER than '..Said'. Prove '..Said' where nothing that the law and all that it calls make is longer than what came in: it says more and counts as full. Else prove '..UptoSaid'. A law counts once. -/
mutual
def uptoBulk {H : Type} : DataW H → Nat
  | .lit (.string bytes) => bytes.length + 1
  | .lit _ => 1
  | .nil => 1
  | .ptr d => uptoBulk d + 1
  | .slice elems spare => uptoBulkAll elems + uptoBulkAll spare + 1
  | .agg parts => uptoBulkAll parts + 1
  | .iface _ d => uptoBulk d + 1
  | .map entries => uptoBulkEntries entries + 1
  | .held _ => 1
def uptoBulkAll {H : Type} : List (DataW H) → Nat
  | [] => 0
  | d :: r => uptoBulk d + uptoBulkAll r
def uptoBulkEntries {H : Type} : List (Lit × DataW H) → Nat
  | [] => 0
  | x :: r => uptoBulkEntry x + uptoBulkEntries r
def uptoBulkEntry {H : Type} : Lit × DataW H → Nat
  | (.string bytes, d) => bytes.length + uptoBulk d + 1
  | (_, d) => uptoBulk d + 1
 end
def uptoSmall : (H : Type) → List (DataW H) → Bool := fun _ ds => decide (uptoBulkAll ds ≤ 1048576)
def OpenSpec.upto (s : _root_.Go.ChangeSpec) : _root_.Go.OpenSpec := { _root_.Go.OpenSpec.ofChange s with cond := some uptoSmall }

/-- 'laws.FnExactForthRank', WHERE WHAT IT READS IS OF BULK AT MOST 1048576: true; the input reads as it did. -/
def fnExactForthRankUptoRow : OpenClaim := { program := "ytijbngmlaggclaa", sum := "a304f92c73e8d933868ae90bc46d10bbeb3d9e8d2aa1114db577f88b1df12bea", func := "loop.example/g01304/laws.FnExactForthRank", spec := "fnExactForthRank", unfollowed := true, recurses := true, apart := false, narrowed := true }
def FnExactForthRankUptoSaid : Prop := fnExactForthRankUptoRow.holds Try.pinned (OpenSpec.upto fnExactForthRankSpec)

/-- 'laws.FnOrdersTurnOfAll', WHERE WHAT IT READS IS OF BULK AT MOST 1048576: true; the input reads as it did. -/
def fnOrdersTurnOfAllUptoRow : OpenClaim := { program := "ytijbngmlaggclaa", sum := "a304f92c73e8d933868ae90bc46d10bbeb3d9e8d2aa1114db577f88b1df12bea", func := "loop.example/g01304/laws.FnOrdersTurnOfAll", spec := "fnOrdersTurnOfAll", unfollowed := true, recurses := true, apart := false, narrowed := true }
def FnOrdersTurnOfAllUptoSaid : Prop := fnOrdersTurnOfAllUptoRow.holds Try.pinned (OpenSpec.upto fnOrdersTurnOfAllSpec)

/-- 'laws.FnOrdersTurn', WHERE WHAT IT READS IS OF BULK AT MOST 1048576: true; the input reads as it did. -/
def fnOrdersTurnUptoRow : OpenClaim := { program := "ytijbngmlaggclaa", sum := "a304f92c73e8d933868ae90bc46d10bbeb3d9e8d2aa1114db577f88b1df12bea", func := "loop.example/g01304/laws.FnOrdersTurn", spec := "fnOrdersTurn", unfollowed := true, recurses := true, apart := false, narrowed := true }
def FnOrdersTurnUptoSaid : Prop := fnOrdersTurnUptoRow.holds Try.pinned (OpenSpec.upto fnOrdersTurnSpec)

end Rows
end Go.Proofs.Ytijbngmlaggclaa
