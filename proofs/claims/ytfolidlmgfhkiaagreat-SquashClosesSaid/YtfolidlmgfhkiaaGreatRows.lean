/-
  No cell of these rows narrows 'for every input' (looked for: loops, veiled, ifaces, maps, wideKeys, modest, calm, conditions, laid).
  DERIVED. THE GIVEN ROWS OF THIS SEAT. 5 by the template 'for every input the law returns true; each argument reads behind the call as it read before'; 0 by the template 'total and deterministic' (their statements: YtfolidlmgfhkiaaGreatTotals.lean).
  GIVEN WITH THE SEED: the statements are not yours to turn. If you find one false, say at which input.
  Laid BY PROGRAM, IN A SANDBOX (cutbox-rows.mjs): the forced cells as the released guide's own fill.sh prints them over the translation feafd8f0beb59066… (all of the seat's roots in one cut). By AI agents, Wed Nov 11 2026. No macro, syntax, notation, axiom, sorry.
-/
import Derived.Test.YtfolidlmgfhkiaaGreatChecked
import GoSem.Claim
import GoSem.ClaimJoined
import GoSem.ClaimMapViews
import Derived.JoinedTies
import Derived.KernelRfl
namespace Go.Proofs.YtfolidlmgfhkiaaGreat
/- THE CELL 'sum', in the pinned program and in every row, IS THE sha256 OF THE DUMP (.gsa) THAT YtfolidlmgfhkiaaGreatProg.lean LOADS. Nothing in Lean hashes anything: it is a label: what it is worth is what the hold of that sum in a sandbox is worth. -/
noncomputable def Tryz.pinned : Pinned := { name := "ytfolidlmgfhkiaagreat", sum := "feafd8f0beb590667cc0ba8a8579577df59d36ba8d2cf67bc8fe52ea74ebf85b", checked := Tryz.checked }
namespace Rows
def none {H : Type} : Left H := { results := [], args := [] }

/-- 'speculatelaw27.SquashCloses': WHATEVER THE INPUT: true; the input reads as it did. -/
def squashClosesSpec : ChangeSpec := { name := "squashCloses", fn := fun _ => fun
  | [d1, d2] => { results := [.lit (.bool true)], args := [d1, d2] }
  | _ => none }
def squashClosesRow : OpenClaim := { program := "ytfolidlmgfhkiaagreat", sum := "feafd8f0beb590667cc0ba8a8579577df59d36ba8d2cf67bc8fe52ea74ebf85b", func := "speculate/speculatelaw27.SquashCloses", spec := "squashCloses", unfollowed := true, recurses := true, apart := false }
def SquashClosesSaid : Prop := squashClosesRow.holds Tryz.pinned (OpenSpec.ofChange squashClosesSpec)

/-- ITS FALSE NEIGHBOUR: 'it returns false'. Refute it at one input. -/
def squashClosesWrong : ChangeSpec := { name := "squashCloses", fn := fun _ => fun
  | [d1, d2] => { results := [.lit (.bool false)], args := [d1, d2] }
  | _ => none }
def SquashClosesWrongFalsely : Prop := squashClosesRow.holds Tryz.pinned (OpenSpec.ofChange squashClosesWrong)

/-- 'speculatelaw19.PredictGuesses': WHATEVER THE INPUT: true; the input reads as it did. -/
def predictGuessesSpec : ChangeSpec := { name := "predictGuesses", fn := fun _ => fun
  | [d1, d2, d3, d4, d5, d6] => { results := [.lit (.bool true)], args := [d1, d2, d3, d4, d5, d6] }
  | _ => none }
def predictGuessesRow : OpenClaim := { program := "ytfolidlmgfhkiaagreat", sum := "feafd8f0beb590667cc0ba8a8579577df59d36ba8d2cf67bc8fe52ea74ebf85b", func := "speculate/speculatelaw19.PredictGuesses", spec := "predictGuesses", inPlace := ["slices.overlaps[speculate/api.Track]"], unfollowed := true, recurses := true, apart := false }
def PredictGuessesSaid : Prop := predictGuessesRow.holds Tryz.pinned (OpenSpec.ofChange predictGuessesSpec)

/-- ITS FALSE NEIGHBOUR: 'it returns false'. Refute it at one input. -/
def predictGuessesWrong : ChangeSpec := { name := "predictGuesses", fn := fun _ => fun
  | [d1, d2, d3, d4, d5, d6] => { results := [.lit (.bool false)], args := [d1, d2, d3, d4, d5, d6] }
  | _ => none }
def PredictGuessesWrongFalsely : Prop := predictGuessesRow.holds Tryz.pinned (OpenSpec.ofChange predictGuessesWrong)

/-- 'speculatelaw29.DelayCounts': WHATEVER THE INPUT: true; the input reads as it did. -/
def delayCountsSpec : ChangeSpec := { name := "delayCounts", fn := fun _ => fun
  | [d1, d2, d3, d4, d5] => { results := [.lit (.bool true)], args := [d1, d2, d3, d4, d5] }
  | _ => none }
def delayCountsRow : OpenClaim := { program := "ytfolidlmgfhkiaagreat", sum := "feafd8f0beb590667cc0ba8a8579577df59d36ba8d2cf67bc8fe52ea74ebf85b", func := "speculate/speculatelaw29.DelayCounts", spec := "delayCounts", inPlace := ["slices.overlaps[speculate/api.Pair]"], unfollowed := true, recurses := true, apart := false }
def DelayCountsSaid : Prop := delayCountsRow.holds Tryz.pinned (OpenSpec.ofChange delayCountsSpec)

/-- ITS FALSE NEIGHBOUR: 'it returns false'. Refute it at one input. -/
def delayCountsWrong : ChangeSpec := { name := "delayCounts", fn := fun _ => fun
  | [d1, d2, d3, d4, d5] => { results := [.lit (.bool false)], args := [d1, d2, d3, d4, d5] }
  | _ => none }
def DelayCountsWrongFalsely : Prop := delayCountsRow.holds Tryz.pinned (OpenSpec.ofChange delayCountsWrong)

/-- 'speculatelaw29.DelayEnds': WHATEVER THE INPUT: true; the input reads as it did. -/
def delayEndsSpec : ChangeSpec := { name := "delayEnds", fn := fun _ => fun
  | [d1, d2] => { results := [.lit (.bool true)], args := [d1, d2] }
  | _ => none }
def delayEndsRow : OpenClaim := { program := "ytfolidlmgfhkiaagreat", sum := "feafd8f0beb590667cc0ba8a8579577df59d36ba8d2cf67bc8fe52ea74ebf85b", func := "speculate/speculatelaw29.DelayEnds", spec := "delayEnds", inPlace := ["slices.overlaps[speculate/api.Pair]"], unfollowed := true, recurses := true, apart := false }
def DelayEndsSaid : Prop := delayEndsRow.holds Tryz.pinned (OpenSpec.ofChange delayEndsSpec)

/-- ITS FALSE NEIGHBOUR: 'it returns false'. Refute it at one input. -/
def delayEndsWrong : ChangeSpec := { name := "delayEnds", fn := fun _ => fun
  | [d1, d2] => { results := [.lit (.bool false)], args := [d1, d2] }
  | _ => none }
def DelayEndsWrongFalsely : Prop := delayEndsRow.holds Tryz.pinned (OpenSpec.ofChange delayEndsWrong)

/-- 'speculatelaw29.DelayForgets': WHATEVER THE INPUT: true; the input reads as it did. -/
def delayForgetsSpec : ChangeSpec := { name := "delayForgets", fn := fun _ => fun
  | [d1, d2] => { results := [.lit (.bool true)], args := [d1, d2] }
  | _ => none }
def delayForgetsRow : OpenClaim := { program := "ytfolidlmgfhkiaagreat", sum := "feafd8f0beb590667cc0ba8a8579577df59d36ba8d2cf67bc8fe52ea74ebf85b", func := "speculate/speculatelaw29.DelayForgets", spec := "delayForgets", inPlace := ["slices.overlaps[speculate/api.Pair]"], unfollowed := true, recurses := true, apart := false }
def DelayForgetsSaid : Prop := delayForgetsRow.holds Tryz.pinned (OpenSpec.ofChange delayForgetsSpec)

/-- ITS FALSE NEIGHBOUR: 'it returns false'. Refute it at one input. -/
def delayForgetsWrong : ChangeSpec := { name := "delayForgets", fn := fun _ => fun
  | [d1, d2] => { results := [.lit (.bool false)], args := [d1, d2] }
  | _ => none }
def DelayForgetsWrongFalsely : Prop := delayForgetsRow.holds Tryz.pinned (OpenSpec.ofChange delayForgetsWrong)

/- THE SECOND FORM. 'bulk': how many values and letters a reading holds, each counted each time it is reached (what is shared counts as often as it is met; a slice's spare places count too). A statement '..UptoSaid' is the law's where the arguments, and the package variables that the reading takes, are together of bulk at most 1048576: NARROWER than '..Said'. Prove '..Said' where nothing that the law and all that it calls make is longer than what came in: it says more and counts as full. Else prove '..UptoSaid'. A law counts once. -/
mutual
def uptoBulk {H : Type} : DataW H → Nat
  | .lit (.string bytes) => bytes.length + 1
  | .lit _ => 1
  | .nil => 1
  | .ptr d => uptoBulk d + 1
  | .slice elems spare => uptoBulkAll elems + uptoBulkAll spare + 1
  | .agg parts => uptoBulkAll parts + 1
  | .iface _ d => uptoBulk d + 1
  | .map entries => uptoBulkEntries entries + 1
  | .held _ => 1
def uptoBulkAll {H : Type} : List (DataW H) → Nat
  | [] => 0
  | d :: r => uptoBulk d + uptoBulkAll r
def uptoBulkEntries {H : Type} : List (Lit × DataW H) → Nat
  | [] => 0
  | x :: r => uptoBulkEntry x + uptoBulkEntries r
def uptoBulkEntry {H : Type} : Lit × DataW H → Nat
  | (.string bytes, d) => bytes.length + uptoBulk d + 1
  | (_, d) => uptoBulk d + 1
 end
def uptoSmall : (H : Type) → List (DataW H) → Bool := fun _ ds => decide (uptoBulkAll ds ≤ 1048576)
def OpenSpec.upto (s : _root_.Go.ChangeSpec) : _root_.Go.OpenSpec := { _root_.Go.OpenSpec.ofChange s with cond := some uptoSmall }

/-- 'speculatelaw27.SquashCloses', WHERE WHAT IT READS IS OF BULK AT MOST 1048576: true; the input reads as it did. -/
def squashClosesUptoRow : OpenClaim := { program := "ytfolidlmgfhkiaagreat", sum := "feafd8f0beb590667cc0ba8a8579577df59d36ba8d2cf67bc8fe52ea74ebf85b", func := "speculate/speculatelaw27.SquashCloses", spec := "squashCloses", unfollowed := true, recurses := true, apart := false, narrowed := true }
def SquashClosesUptoSaid : Prop := squashClosesUptoRow.holds Tryz.pinned (OpenSpec.upto squashClosesSpec)

/-- 'speculatelaw19.PredictGuesses', WHERE WHAT IT READS IS OF BULK AT MOST 1048576: true; the input reads as it did. -/
def predictGuessesUptoRow : OpenClaim := { program := "ytfolidlmgfhkiaagreat", sum := "feafd8f0beb590667cc0ba8a8579577df59d36ba8d2cf67bc8fe52ea74ebf85b", func := "speculate/speculatelaw19.PredictGuesses", spec := "predictGuesses", inPlace := ["slices.overlaps[speculate/api.Track]"], unfollowed := true, recurses := true, apart := false, narrowed := true }
def PredictGuessesUptoSaid : Prop := predictGuessesUptoRow.holds Tryz.pinned (OpenSpec.upto predictGuessesSpec)

/-- 'speculatelaw29.DelayCounts', WHERE WHAT IT READS IS OF BULK AT MOST 1048576: true; the input reads as it did. -/
def delayCountsUptoRow : OpenClaim := { program := "ytfolidlmgfhkiaagreat", sum := "feafd8f0beb590667cc0ba8a8579577df59d36ba8d2cf67bc8fe52ea74ebf85b", func := "speculate/speculatelaw29.DelayCounts", spec := "delayCounts", inPlace := ["slices.overlaps[speculate/api.Pair]"], unfollowed := true, recurses := true, apart := false, narrowed := true }
def DelayCountsUptoSaid : Prop := delayCountsUptoRow.holds Tryz.pinned (OpenSpec.upto delayCountsSpec)

/-- 'speculatelaw29.DelayEnds', WHERE WHAT IT READS IS OF BULK AT MOST 1048576: true; the input reads as it did. -/
def delayEndsUptoRow : OpenClaim := { program := "ytfolidlmgfhkiaagreat", sum := "feafd8f0beb590667cc0ba8a8579577df59d36ba8d2cf67bc8fe52ea74ebf85b", func := "speculate/speculatelaw29.DelayEnds", spec := "delayEnds", inPlace := ["slices.overlaps[speculate/api.Pair]"], unfollowed := true, recurses := true, apart := false, narrowed := true }
def DelayEndsUptoSaid : Prop := delayEndsUptoRow.holds Tryz.pinned (OpenSpec.upto delayEndsSpec)

/-- 'speculatelaw29.DelayForgets', WHERE WHAT IT READS IS OF BULK AT MOST 1048576: true; the input reads as it did. -/
def delayForgetsUptoRow : OpenClaim := { program := "ytfolidlmgfhkiaagreat", sum := "feafd8f0beb590667cc0ba8a8579577df59d36ba8d2cf67bc8fe52ea74ebf85b", func := "speculate/speculatelaw29.DelayForgets", spec := "delayForgets", inPlace := ["slices.overlaps[speculate/api.Pair]"], unfollowed := true, recurses := true, apart := false, narrowed := true }
def DelayForgetsUptoSaid : Prop := delayForgetsUptoRow.holds Tryz.pinned (OpenSpec.upto delayForgetsSpec)

end Rows
end Go.Proofs.YtfolidlmgfhkiaaGreat
