/-
  No cell of these rows narrows 'for every input' (looked for: loops, veiled, ifaces, maps, wideKeys, modest, calm, conditions, laid).
  DERIVED. THE GIVEN ROWS OF THIS SEAT. 3 by the template 'for every input the law returns true; each argument reads behind the call as it read before'; 0 by the template 'total and deterministic' (their statements: YtmpcefcgboljkaaGreatTotals.lean).
  GIVEN WITH THE SEED: the statements are not yours to turn. If you find one false, say at which input.
  Laid BY PROGRAM, IN A SANDBOX (cutbox-rows.mjs): the forced cells as the released guide's own fill.sh prints them over the translation c5c29ecd2cb74bb6… (all of the seat's roots in one cut). By AI agents, Wed Nov 11 2026. No macro, syntax, notation, axiom, sorry.
-/
import Derived.Test.YtmpcefcgboljkaaGreatChecked
import GoSem.Claim
import GoSem.ClaimJoined
import GoSem.ClaimMapViews
import Derived.JoinedTies
import Derived.KernelRfl
namespace Go.Proofs.YtmpcefcgboljkaaGreat
/- THE CELL 'sum', in the pinned program and in every row, IS THE sha256 OF THE DUMP (.gsa) THAT YtmpcefcgboljkaaGreatProg.lean LOADS. Nothing in Lean hashes anything: it is a label: what it is worth is what the hold of that sum in a sandbox is worth. -/
noncomputable def Tryz.pinned : Pinned := { name := "ytmpcefcgboljkaagreat", sum := "c5c29ecd2cb74bb6be5929d5ccae314937af3ebe3248c36364062d03e558833d", checked := Tryz.checked }
namespace Rows
def none {H : Type} : Left H := { results := [], args := [] }

/-- 'laws.FnRingsOpenOfAll': WHATEVER THE INPUT: true; the input reads as it did. -/
def fnRingsOpenOfAllSpec : ChangeSpec := { name := "fnRingsOpenOfAll", fn := fun _ => fun
  | [d1, d2, d3, d4, d5, d6, d7, d8] => { results := [.lit (.bool true)], args := [d1, d2, d3, d4, d5, d6, d7, d8] }
  | _ => none }
def fnRingsOpenOfAllRow : OpenClaim := { program := "ytmpcefcgboljkaagreat", sum := "c5c29ecd2cb74bb6be5929d5ccae314937af3ebe3248c36364062d03e558833d", func := "loop.example/g01304/laws.FnRingsOpenOfAll", spec := "fnRingsOpenOfAll", inPlace := ["internal/abi.NoEscape", "internal/bytealg.MakeNoZero", "internal/bytealg.IndexByteString", "internal/bytealg.IndexString"], unfollowed := true, recurses := true, named := ["internal/bytealg.MaxLen"], apart := false }
def FnRingsOpenOfAllSaid : Prop := fnRingsOpenOfAllRow.holds Tryz.pinned (OpenSpec.ofChange fnRingsOpenOfAllSpec)

/-- ITS FALSE NEIGHBOUR: 'it returns false'. Refute it at one input. -/
def fnRingsOpenOfAllWrong : ChangeSpec := { name := "fnRingsOpenOfAll", fn := fun _ => fun
  | [d1, d2, d3, d4, d5, d6, d7, d8] => { results := [.lit (.bool false)], args := [d1, d2, d3, d4, d5, d6, d7, d8] }
  | _ => none }
def FnRingsOpenOfAllWrongFalsely : Prop := fnRingsOpenOfAllRow.holds Tryz.pinned (OpenSpec.ofChange fnRingsOpenOfAllWrong)

/-- 'laws.FnRingsMeet': WHATEVER THE INPUT: true; the input reads as it did. -/
def fnRingsMeetSpec : ChangeSpec := { name := "fnRingsMeet", fn := fun _ => fun
  | [d1, d2] => { results := [.lit (.bool true)], args := [d1, d2] }
  | _ => none }
def fnRingsMeetRow : OpenClaim := { program := "ytmpcefcgboljkaagreat", sum := "c5c29ecd2cb74bb6be5929d5ccae314937af3ebe3248c36364062d03e558833d", func := "loop.example/g01304/laws.FnRingsMeet", spec := "fnRingsMeet", inPlace := ["internal/abi.NoEscape", "internal/bytealg.MakeNoZero", "internal/bytealg.IndexByteString", "internal/bytealg.IndexString"], unfollowed := true, recurses := true, named := ["internal/bytealg.MaxLen"], apart := false }
def FnRingsMeetSaid : Prop := fnRingsMeetRow.holds Tryz.pinned (OpenSpec.ofChange fnRingsMeetSpec)

/-- ITS FALSE NEIGHBOUR: 'it returns false'. Refute it at one input. -/
def fnRingsMeetWrong : ChangeSpec := { name := "fnRingsMeet", fn := fun _ => fun
  | [d1, d2] => { results := [.lit (.bool false)], args := [d1, d2] }
  | _ => none }
def FnRingsMeetWrongFalsely : Prop := fnRingsMeetRow.holds Tryz.pinned (OpenSpec.ofChange fnRingsMeetWrong)

/-- 'laws.FnRingsOpen': WHATEVER THE INPUT: true; the input reads as it did. -/
def fnRingsOpenSpec : ChangeSpec := { name := "fnRingsOpen", fn := fun _ => fun
  | [d1, d2] => { results := [.lit (.bool true)], args := [d1, d2] }
  | _ => none }
def fnRingsOpenRow : OpenClaim := { program := "ytmpcefcgboljkaagreat", sum := "c5c29ecd2cb74bb6be5929d5ccae314937af3ebe3248c36364062d03e558833d", func := "loop.example/g01304/laws.FnRingsOpen", spec := "fnRingsOpen", inPlace := ["internal/abi.NoEscape", "internal/bytealg.MakeNoZero", "internal/bytealg.IndexByteString", "internal/bytealg.IndexString"], unfollowed := true, recurses := true, named := ["internal/bytealg.MaxLen"], apart := false }
def FnRingsOpenSaid : Prop := fnRingsOpenRow.holds Tryz.pinned (OpenSpec.ofChange fnRingsOpenSpec)

/-- ITS FALSE NEIGHBOUR: 'it returns false'. Refute it at one input. -/
def fnRingsOpenWrong : ChangeSpec := { name := "fnRingsOpen", fn := fun _ => fun
  | [d1, d2] => { results := [.lit (.bool false)], args := [d1, d2] }
  | _ => none }
def FnRingsOpenWrongFalsely : Prop := fnRingsOpenRow.holds Tryz.pinned (OpenSpec.ofChange fnRingsOpenWrong)

/- THE SECOND FORM. 'bulk': how many values and letters a reading holds, each counted each time it is reached (what is shared counts as often as it is met; a slice's spare places count too). A statement '..UptoSaid' is the law's where the arguments, and the package variables that the reading takes, are together of bulk at most 1048576: NARROWER than '..Said'. Prove '..Said' where nothing that the law and all that it calls make is longer than what came in: it says more and counts as full. Else prove '..UptoSaid'. A law counts once. -/
mutual
def uptoBulk {H : Type} : DataW H → Nat
  | .lit (.string bytes) => bytes.length + 1
  | .lit _ => 1
  | .nil => 1
  | .ptr d => uptoBulk d + 1
  | .slice elems spare => uptoBulkAll elems + uptoBulkAll spare + 1
  | .agg parts => uptoBulkAll parts + 1
  | .iface _ d => uptoBulk d + 1
  | .map entries => uptoBulkEntries entries + 1
  | .held _ => 1
def uptoBulkAll {H : Type} : List (DataW H) → Nat
  | [] => 0
  | d :: r => uptoBulk d + uptoBulkAll r
def uptoBulkEntries {H : Type} : List (Lit × DataW H) → Nat
  | [] => 0
  | x :: r => uptoBulkEntry x + uptoBulkEntries r
def uptoBulkEntry {H : Type} : Lit × DataW H → Nat
  | (.string bytes, d) => bytes.length + uptoBulk d + 1
  | (_, d) => uptoBulk d + 1
 end
def uptoSmall : (H : Type) → List (DataW H) → Bool := fun _ ds => decide (uptoBulkAll ds ≤ 1048576)
def OpenSpec.upto (s : _root_.Go.ChangeSpec) : _root_.Go.OpenSpec := { _root_.Go.OpenSpec.ofChange s with cond := some uptoSmall }

/-- 'laws.FnRingsOpenOfAll', WHERE WHAT IT READS IS OF BULK AT MOST 1048576: true; the input reads as it did. -/
def fnRingsOpenOfAllUptoRow : OpenClaim := { program := "ytmpcefcgboljkaagreat", sum := "c5c29ecd2cb74bb6be5929d5ccae314937af3ebe3248c36364062d03e558833d", func := "loop.example/g01304/laws.FnRingsOpenOfAll", spec := "fnRingsOpenOfAll", inPlace := ["internal/abi.NoEscape", "internal/bytealg.MakeNoZero", "internal/bytealg.IndexByteString", "internal/bytealg.IndexString"], unfollowed := true, recurses := true, named := ["internal/bytealg.MaxLen"], apart := false, narrowed := true }
def FnRingsOpenOfAllUptoSaid : Prop := fnRingsOpenOfAllUptoRow.holds Tryz.pinned (OpenSpec.upto fnRingsOpenOfAllSpec)

/-- 'laws.FnRingsMeet', WHERE WHAT IT READS IS OF BULK AT MOST 1048576: true; the input reads as it did. -/
def fnRingsMeetUptoRow : OpenClaim := { program := "ytmpcefcgboljkaagreat", sum := "c5c29ecd2cb74bb6be5929d5ccae314937af3ebe3248c36364062d03e558833d", func := "loop.example/g01304/laws.FnRingsMeet", spec := "fnRingsMeet", inPlace := ["internal/abi.NoEscape", "internal/bytealg.MakeNoZero", "internal/bytealg.IndexByteString", "internal/bytealg.IndexString"], unfollowed := true, recurses := true, named := ["internal/bytealg.MaxLen"], apart := false, narrowed := true }
def FnRingsMeetUptoSaid : Prop := fnRingsMeetUptoRow.holds Tryz.pinned (OpenSpec.upto fnRingsMeetSpec)

/-- 'laws.FnRingsOpen', WHERE WHAT IT READS IS OF BULK AT MOST 1048576: true; the input reads as it did. -/
def fnRingsOpenUptoRow : OpenClaim := { program := "ytmpcefcgboljkaagreat", sum := "c5c29ecd2cb74bb6be5929d5ccae314937af3ebe3248c36364062d03e558833d", func := "loop.example/g01304/laws.FnRingsOpen", spec := "fnRingsOpen", inPlace := ["internal/abi.NoEscape", "internal/bytealg.MakeNoZero", "internal/bytealg.IndexByteString", "internal/bytealg.IndexString"], unfollowed := true, recurses := true, named := ["internal/bytealg.MaxLen"], apart := false, narrowed := true }
def FnRingsOpenUptoSaid : Prop := fnRingsOpenUptoRow.holds Tryz.pinned (OpenSpec.upto fnRingsOpenSpec)

end Rows
end Go.Proofs.YtmpcefcgboljkaaGreat
