/-
  No cell of these rows narrows 'for every input' (looked for: loops, veiled, ifaces, maps, wideKeys, modest, calm, conditions, laid).
  DERIVED. THE GIVEN ROWS OF THIS SEAT. 3 by the template 'for every input the law returns true; each argument reads behind the call as it read before'; 0 by the template 'total and deterministic' (their statements: YtohflngcgmcllaaTotals.lean).
  GIVEN WITH THE SEED: the statements are not yours to turn. If you find one false, say at which input.
  Laid BY PROGRAM, IN A SANDBOX (cutbox-rows.mjs): the forced cells as the released guide's own fill.sh prints them over the translation ac9469468b1f5e3e… (all of the seat's roots in one cut). By AI agents, Wed Nov 11 2026. No macro, syntax, notation, axiom, sorry.
-/
import Derived.Test.YtohflngcgmcllaaChecked
import GoSem.Claim
import GoSem.ClaimJoined
import GoSem.ClaimMapViews
import Derived.JoinedTies
import Derived.KernelRfl
namespace Go.Proofs.Ytohflngcgmcllaa
/- THE CELL 'sum', in the pinned program and in every row, IS THE sha256 OF THE DUMP (.gsa) THAT YtohflngcgmcllaaProg.lean LOADS. Nothing in Lean hashes anything: it is a label: what it is worth is what the hold of that sum in a sandbox is worth. -/
noncomputable def Try.pinned : Pinned := { name := "ytohflngcgmcllaa", sum := "ac9469468b1f5e3e1828271ed1318b5f74d0cf15d708c7964fc02305dd98ae59", checked := Try.checked }
namespace Rows
def none {H : Type} : Left H := { results := [], args := [] }

/-- 'speculatelaw03.HeapDoes': WHATEVER THE INPUT: true; the input reads as it did. -/
def heapDoesSpec : ChangeSpec := { name := "heapDoes", fn := fun _ => fun
  | [d1, d2, d3, d4, d5, d6] => { results := [.lit (.bool true)], args := [d1, d2, d3, d4, d5, d6] }
  | _ => none }
def heapDoesRow : OpenClaim := { program := "ytohflngcgmcllaa", sum := "ac9469468b1f5e3e1828271ed1318b5f74d0cf15d708c7964fc02305dd98ae59", func := "speculate/speculatelaw03.HeapDoes", spec := "heapDoes", inPlace := ["slices.overlaps[speculate/api.Object]"], unfollowed := true, recurses := true, apart := false }
def HeapDoesSaid : Prop := heapDoesRow.holds Try.pinned (OpenSpec.ofChange heapDoesSpec)

/-- ITS FALSE NEIGHBOUR: 'it returns false'. Refute it at one input. -/
def heapDoesWrong : ChangeSpec := { name := "heapDoes", fn := fun _ => fun
  | [d1, d2, d3, d4, d5, d6] => { results := [.lit (.bool false)], args := [d1, d2, d3, d4, d5, d6] }
  | _ => none }
def HeapDoesWrongFalsely : Prop := heapDoesRow.holds Try.pinned (OpenSpec.ofChange heapDoesWrong)

/-- 'speculatelaw03.HeapKeeps': WHATEVER THE INPUT: true; the input reads as it did. -/
def heapKeepsSpec : ChangeSpec := { name := "heapKeeps", fn := fun _ => fun
  | [d1, d2, d3, d4] => { results := [.lit (.bool true)], args := [d1, d2, d3, d4] }
  | _ => none }
def heapKeepsRow : OpenClaim := { program := "ytohflngcgmcllaa", sum := "ac9469468b1f5e3e1828271ed1318b5f74d0cf15d708c7964fc02305dd98ae59", func := "speculate/speculatelaw03.HeapKeeps", spec := "heapKeeps", inPlace := ["slices.overlaps[speculate/api.Object]"], unfollowed := true, recurses := true, apart := false }
def HeapKeepsSaid : Prop := heapKeepsRow.holds Try.pinned (OpenSpec.ofChange heapKeepsSpec)

/-- ITS FALSE NEIGHBOUR: 'it returns false'. Refute it at one input. -/
def heapKeepsWrong : ChangeSpec := { name := "heapKeeps", fn := fun _ => fun
  | [d1, d2, d3, d4] => { results := [.lit (.bool false)], args := [d1, d2, d3, d4] }
  | _ => none }
def HeapKeepsWrongFalsely : Prop := heapKeepsRow.holds Try.pinned (OpenSpec.ofChange heapKeepsWrong)

/-- 'speculatelaw03.HeapPuts': WHATEVER THE INPUT: true; the input reads as it did. -/
def heapPutsSpec : ChangeSpec := { name := "heapPuts", fn := fun _ => fun
  | [d1, d2] => { results := [.lit (.bool true)], args := [d1, d2] }
  | _ => none }
def heapPutsRow : OpenClaim := { program := "ytohflngcgmcllaa", sum := "ac9469468b1f5e3e1828271ed1318b5f74d0cf15d708c7964fc02305dd98ae59", func := "speculate/speculatelaw03.HeapPuts", spec := "heapPuts", inPlace := ["slices.overlaps[speculate/api.Object]"], unfollowed := true, recurses := true, apart := false }
def HeapPutsSaid : Prop := heapPutsRow.holds Try.pinned (OpenSpec.ofChange heapPutsSpec)

/-- ITS FALSE NEIGHBOUR: 'it returns false'. Refute it at one input. -/
def heapPutsWrong : ChangeSpec := { name := "heapPuts", fn := fun _ => fun
  | [d1, d2] => { results := [.lit (.bool false)], args := [d1, d2] }
  | _ => none }
def HeapPutsWrongFalsely : Prop := heapPutsRow.holds Try.pinned (OpenSpec.ofChange heapPutsWrong)

/- THE SECOND FORM. 'bulk': how many values and letters a reading holds, each counted each time it is reached (what is shared counts as often as it is met; a slice's spare places count too). A statement '..UptoSaid' is the law's where the arguments, and the package variables that the reading takes, are together of bulk at most 1048576: NARROWER than '..Said'. Prove '..Said' where nothing that the law and all that it calls make is longer than what came in: it says more and counts as full. Else prove '..UptoSaid'. A law counts once. -/
mutual
def uptoBulk {H : Type} : DataW H → Nat
  | .lit (.string bytes) => bytes.length + 1
  | .lit _ => 1
  | .nil => 1
  | .ptr d => uptoBulk d + 1
  | .slice elems spare => uptoBulkAll elems + uptoBulkAll spare + 1
  | .agg parts => uptoBulkAll parts + 1
  | .iface _ d => uptoBulk d + 1
  | .map entries => uptoBulkEntries entries + 1
  | .held _ => 1
def uptoBulkAll {H : Type} : List (DataW H) → Nat
  | [] => 0
  | d :: r => uptoBulk d + uptoBulkAll r
def uptoBulkEntries {H : Type} : List (Lit × DataW H) → Nat
  | [] => 0
  | x :: r => uptoBulkEntry x + uptoBulkEntries r
def uptoBulkEntry {H : Type} : Lit × DataW H → Nat
  | (.string bytes, d) => bytes.length + uptoBulk d + 1
  | (_, d) => uptoBulk d + 1
 end
def uptoSmall : (H : Type) → List (DataW H) → Bool := fun _ ds => decide (uptoBulkAll ds ≤ 1048576)
def OpenSpec.upto (s : _root_.Go.ChangeSpec) : _root_.Go.OpenSpec := { _root_.Go.OpenSpec.ofChange s with cond := some uptoSmall }

/-- 'speculatelaw03.HeapDoes', WHERE WHAT IT READS IS OF BULK AT MOST 1048576: true; the input reads as it did. -/
def heapDoesUptoRow : OpenClaim := { program := "ytohflngcgmcllaa", sum := "ac9469468b1f5e3e1828271ed1318b5f74d0cf15d708c7964fc02305dd98ae59", func := "speculate/speculatelaw03.HeapDoes", spec := "heapDoes", inPlace := ["slices.overlaps[speculate/api.Object]"], unfollowed := true, recurses := true, apart := false, narrowed := true }
def HeapDoesUptoSaid : Prop := heapDoesUptoRow.holds Try.pinned (OpenSpec.upto heapDoesSpec)

/-- 'speculatelaw03.HeapKeeps', WHERE WHAT IT READS IS OF BULK AT MOST 1048576: true; the input reads as it did. -/
def heapKeepsUptoRow : OpenClaim := { program := "ytohflngcgmcllaa", sum := "ac9469468b1f5e3e1828271ed1318b5f74d0cf15d708c7964fc02305dd98ae59", func := "speculate/speculatelaw03.HeapKeeps", spec := "heapKeeps", inPlace := ["slices.overlaps[speculate/api.Object]"], unfollowed := true, recurses := true, apart := false, narrowed := true }
def HeapKeepsUptoSaid : Prop := heapKeepsUptoRow.holds Try.pinned (OpenSpec.upto heapKeepsSpec)

/-- 'speculatelaw03.HeapPuts', WHERE WHAT IT READS IS OF BULK AT MOST 1048576: true; the input reads as it did. -/
def heapPutsUptoRow : OpenClaim := { program := "ytohflngcgmcllaa", sum := "ac9469468b1f5e3e1828271ed1318b5f74d0cf15d708c7964fc02305dd98ae59", func := "speculate/speculatelaw03.HeapPuts", spec := "heapPuts", inPlace := ["slices.overlaps[speculate/api.Object]"], unfollowed := true, recurses := true, apart := false, narrowed := true }
def HeapPutsUptoSaid : Prop := heapPutsUptoRow.holds Try.pinned (OpenSpec.upto heapPutsSpec)

end Rows
end Go.Proofs.Ytohflngcgmcllaa
