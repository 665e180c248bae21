/-
  No cell of these rows narrows 'for every input' (looked for: loops, veiled, ifaces, maps, wideKeys, modest, calm, conditions, laid).
  DERIVED. THE GIVEN ROWS OF THIS SEAT. 5 by the template 'for every input the law returns true; each argument reads behind the call as it read before'; 0 by the template 'total and deterministic' (their statements: YtnomghcieomjmaaTotals.lean).
  GIVEN WITH THE SEED: the statements are not yours to turn. If you find one false, say at which input.
  Laid BY PROGRAM, IN A SANDBOX (cutbox-rows.mjs): the forced cells as the released guide's own fill.sh prints them over the translation 7efeeff9efbfca6f… (all of the seat's roots in one cut). By AI agents, Wed Nov 11 2026. No macro, syntax, notation, axiom, sorry.
-/
import Derived.Test.YtnomghcieomjmaaChecked
import GoSem.Claim
import GoSem.ClaimJoined
import GoSem.ClaimMapViews
import Derived.JoinedTies
import Derived.KernelRfl
namespace Go.Proofs.Ytnomghcieomjmaa
/- THE CELL 'sum', in the pinned program and in every row, IS THE sha256 OF THE DUMP (.gsa) THAT YtnomghcieomjmaaProg.lean LOADS. Nothing in Lean hashes anything: it is a label: what it is worth is what the hold of that sum in a sandbox is worth. -/
noncomputable def Try.pinned : Pinned := { name := "ytnomghcieomjmaa", sum := "7efeeff9efbfca6ff56d7dde9398a858f456a47874e2780a0201a6be01a0a8a0", checked := Try.checked }
namespace Rows
def none {H : Type} : Left H := { results := [], args := [] }

/-- 'speculatelaw37.WeakOwn': WHATEVER THE INPUT: true; the input reads as it did. -/
def weakOwnSpec : ChangeSpec := { name := "weakOwn", fn := fun _ => fun
  | [d1, d2] => { results := [.lit (.bool true)], args := [d1, d2] }
  | _ => none }
def weakOwnRow : OpenClaim := { program := "ytnomghcieomjmaa", sum := "7efeeff9efbfca6ff56d7dde9398a858f456a47874e2780a0201a6be01a0a8a0", func := "speculate/speculatelaw37.WeakOwn", spec := "weakOwn", unfollowed := true, recurses := true, apart := false }
def WeakOwnSaid : Prop := weakOwnRow.holds Try.pinned (OpenSpec.ofChange weakOwnSpec)

/-- ITS FALSE NEIGHBOUR: 'it returns false'. Refute it at one input. -/
def weakOwnWrong : ChangeSpec := { name := "weakOwn", fn := fun _ => fun
  | [d1, d2] => { results := [.lit (.bool false)], args := [d1, d2] }
  | _ => none }
def WeakOwnWrongFalsely : Prop := weakOwnRow.holds Try.pinned (OpenSpec.ofChange weakOwnWrong)

/-- 'speculatelaw37.WeakFenced': WHATEVER THE INPUT: true; the input reads as it did. -/
def weakFencedSpec : ChangeSpec := { name := "weakFenced", fn := fun _ => fun
  | [d1, d2] => { results := [.lit (.bool true)], args := [d1, d2] }
  | _ => none }
def weakFencedRow : OpenClaim := { program := "ytnomghcieomjmaa", sum := "7efeeff9efbfca6ff56d7dde9398a858f456a47874e2780a0201a6be01a0a8a0", func := "speculate/speculatelaw37.WeakFenced", spec := "weakFenced", unfollowed := true, recurses := true, apart := false }
def WeakFencedSaid : Prop := weakFencedRow.holds Try.pinned (OpenSpec.ofChange weakFencedSpec)

/-- ITS FALSE NEIGHBOUR: 'it returns false'. Refute it at one input. -/
def weakFencedWrong : ChangeSpec := { name := "weakFenced", fn := fun _ => fun
  | [d1, d2] => { results := [.lit (.bool false)], args := [d1, d2] }
  | _ => none }
def WeakFencedWrongFalsely : Prop := weakFencedRow.holds Try.pinned (OpenSpec.ofChange weakFencedWrong)

/-- 'speculatelaw37.WeakSwaps': WHATEVER THE INPUT: true; the input reads as it did. -/
def weakSwapsSpec : ChangeSpec := { name := "weakSwaps", fn := fun _ => fun
  | [d1, d2, d3] => { results := [.lit (.bool true)], args := [d1, d2, d3] }
  | _ => none }
def weakSwapsRow : OpenClaim := { program := "ytnomghcieomjmaa", sum := "7efeeff9efbfca6ff56d7dde9398a858f456a47874e2780a0201a6be01a0a8a0", func := "speculate/speculatelaw37.WeakSwaps", spec := "weakSwaps", unfollowed := true, recurses := true, apart := false }
def WeakSwapsSaid : Prop := weakSwapsRow.holds Try.pinned (OpenSpec.ofChange weakSwapsSpec)

/-- ITS FALSE NEIGHBOUR: 'it returns false'. Refute it at one input. -/
def weakSwapsWrong : ChangeSpec := { name := "weakSwaps", fn := fun _ => fun
  | [d1, d2, d3] => { results := [.lit (.bool false)], args := [d1, d2, d3] }
  | _ => none }
def WeakSwapsWrongFalsely : Prop := weakSwapsRow.holds Try.pinned (OpenSpec.ofChange weakSwapsWrong)

/-- 'speculatelaw37.WeakMoves': WHATEVER THE INPUT: true; the input reads as it did. -/
def weakMovesSpec : ChangeSpec := { name := "weakMoves", fn := fun _ => fun
  | [d1, d2, d3, d4, d5] => { results := [.lit (.bool true)], args := [d1, d2, d3, d4, d5] }
  | _ => none }
def weakMovesRow : OpenClaim := { program := "ytnomghcieomjmaa", sum := "7efeeff9efbfca6ff56d7dde9398a858f456a47874e2780a0201a6be01a0a8a0", func := "speculate/speculatelaw37.WeakMoves", spec := "weakMoves", unfollowed := true, recurses := true, apart := false }
def WeakMovesSaid : Prop := weakMovesRow.holds Try.pinned (OpenSpec.ofChange weakMovesSpec)

/-- ITS FALSE NEIGHBOUR: 'it returns false'. Refute it at one input. -/
def weakMovesWrong : ChangeSpec := { name := "weakMoves", fn := fun _ => fun
  | [d1, d2, d3, d4, d5] => { results := [.lit (.bool false)], args := [d1, d2, d3, d4, d5] }
  | _ => none }
def WeakMovesWrongFalsely : Prop := weakMovesRow.holds Try.pinned (OpenSpec.ofChange weakMovesWrong)

/-- 'speculatelaw37.WeakEnds': WHATEVER THE INPUT: true; the input reads as it did. -/
def weakEndsSpec : ChangeSpec := { name := "weakEnds", fn := fun _ => fun
  | [d1, d2] => { results := [.lit (.bool true)], args := [d1, d2] }
  | _ => none }
def weakEndsRow : OpenClaim := { program := "ytnomghcieomjmaa", sum := "7efeeff9efbfca6ff56d7dde9398a858f456a47874e2780a0201a6be01a0a8a0", func := "speculate/speculatelaw37.WeakEnds", spec := "weakEnds", unfollowed := true, recurses := true, apart := false }
def WeakEndsSaid : Prop := weakEndsRow.holds Try.pinned (OpenSpec.ofChange weakEndsSpec)

/-- ITS FALSE NEIGHBOUR: 'it returns false'. Refute it at one input. -/
def weakEndsWrong : ChangeSpec := { name := "weakEnds", fn := fun _ => fun
  | [d1, d2] => { results := [.lit (.bool false)], args := [d1, d2] }
  | _ => none }
def WeakEndsWrongFalsely : Prop := weakEndsRow.holds Try.pinned (OpenSpec.ofChange weakEndsWrong)

/- THE SECOND FORM. 'bulk': how many values and letters a reading holds, each counted each time it is reached (what is shared counts as often as it is met; a slice's spare places count too). A statement '..UptoSaid' is the law's where the arguments, and the package variables that the reading takes, are together of bulk at most 1048576: NARROWER than '..Said'. Prove '..Said' where nothing that the law and all that it calls make is longer than what came in: it says more and counts as full. Else prove '..UptoSaid'. A law counts once. -/
mutual
def uptoBulk {H : Type} : DataW H → Nat
  | .lit (.string bytes) => bytes.length + 1
  | .lit _ => 1
  | .nil => 1
  | .ptr d => uptoBulk d + 1
  | .slice elems spare => uptoBulkAll elems + uptoBulkAll spare + 1
  | .agg parts => uptoBulkAll parts + 1
  | .iface _ d => uptoBulk d + 1
  | .map entries => uptoBulkEntries entries + 1
  | .held _ => 1
def uptoBulkAll {H : Type} : List (DataW H) → Nat
  | [] => 0
  | d :: r => uptoBulk d + uptoBulkAll r
def uptoBulkEntries {H : Type} : List (Lit × DataW H) → Nat
  | [] => 0
  | x :: r => uptoBulkEntry x + uptoBulkEntries r
def uptoBulkEntry {H : Type} : Lit × DataW H → Nat
  | (.string bytes, d) => bytes.length + uptoBulk d + 1
  | (_, d) => uptoBulk d + 1
 end
def uptoSmall : (H : Type) → List (DataW H) → Bool := fun _ ds => decide (uptoBulkAll ds ≤ 1048576)
def OpenSpec.upto (s : _root_.Go.ChangeSpec) : _root_.Go.OpenSpec := { _root_.Go.OpenSpec.ofChange s with cond := some uptoSmall }

/-- 'speculatelaw37.WeakOwn', WHERE WHAT IT READS IS OF BULK AT MOST 1048576: true; the input reads as it did. -/
def weakOwnUptoRow : OpenClaim := { program := "ytnomghcieomjmaa", sum := "7efeeff9efbfca6ff56d7dde9398a858f456a47874e2780a0201a6be01a0a8a0", func := "speculate/speculatelaw37.WeakOwn", spec := "weakOwn", unfollowed := true, recurses := true, apart := false, narrowed := true }
def WeakOwnUptoSaid : Prop := weakOwnUptoRow.holds Try.pinned (OpenSpec.upto weakOwnSpec)

/-- 'speculatelaw37.WeakFenced', WHERE WHAT IT READS IS OF BULK AT MOST 1048576: true; the input reads as it did. -/
def weakFencedUptoRow : OpenClaim := { program := "ytnomghcieomjmaa", sum := "7efeeff9efbfca6ff56d7dde9398a858f456a47874e2780a0201a6be01a0a8a0", func := "speculate/speculatelaw37.WeakFenced", spec := "weakFenced", unfollowed := true, recurses := true, apart := false, narrowed := true }
def WeakFencedUptoSaid : Prop := weakFencedUptoRow.holds Try.pinned (OpenSpec.upto weakFencedSpec)

/-- 'speculatelaw37.WeakSwaps', WHERE WHAT IT READS IS OF BULK AT MOST 1048576: true; the input reads as it did. -/
def weakSwapsUptoRow : OpenClaim := { program := "ytnomghcieomjmaa", sum := "7efeeff9efbfca6ff56d7dde9398a858f456a47874e2780a0201a6be01a0a8a0", func := "speculate/speculatelaw37.WeakSwaps", spec := "weakSwaps", unfollowed := true, recurses := true, apart := false, narrowed := true }
def WeakSwapsUptoSaid : Prop := weakSwapsUptoRow.holds Try.pinned (OpenSpec.upto weakSwapsSpec)

/-- 'speculatelaw37.WeakMoves', WHERE WHAT IT READS IS OF BULK AT MOST 1048576: true; the input reads as it did. -/
def weakMovesUptoRow : OpenClaim := { program := "ytnomghcieomjmaa", sum := "7efeeff9efbfca6ff56d7dde9398a858f456a47874e2780a0201a6be01a0a8a0", func := "speculate/speculatelaw37.WeakMoves", spec := "weakMoves", unfollowed := true, recurses := true, apart := false, narrowed := true }
def WeakMovesUptoSaid : Prop := weakMovesUptoRow.holds Try.pinned (OpenSpec.upto weakMovesSpec)

/-- 'speculatelaw37.WeakEnds', WHERE WHAT IT READS IS OF BULK AT MOST 1048576: true; the input reads as it did. -/
def weakEndsUptoRow : OpenClaim := { program := "ytnomghcieomjmaa", sum := "7efeeff9efbfca6ff56d7dde9398a858f456a47874e2780a0201a6be01a0a8a0", func := "speculate/speculatelaw37.WeakEnds", spec := "weakEnds", unfollowed := true, recurses := true, apart := false, narrowed := true }
def WeakEndsUptoSaid : Prop := weakEndsUptoRow.holds Try.pinned (OpenSpec.upto weakEndsSpec)

end Rows
end Go.Proofs.Ytnomghcieomjmaa
