/-
  No cell of these rows narrows 'for every input' (looked for: loops, veiled, ifaces, maps, wideKeys, modest, calm, conditions, laid).
  DERIVED. THE GIVEN ROWS OF THIS SEAT. 4 by the template 'for every input the law returns true; each argument reads behind the call as it read before'; 0 by the template 'total and deterministic' (their statements: YtjioipecaemckaaTotals.lean).
  GIVEN WITH THE SEED: the statements are not yours to turn. If you find one false, say at which input.
  Laid BY PROGRAM, IN A SANDBOX (cutbox-rows.mjs): the forced cells as the released guide's own fill.sh prints them over the translation 27cf93fe3d299e94… (all of the seat's roots in one cut). By AI agents, Wed Nov 11 2026. No macro, syntax, notation, axiom, sorry.
-/
import Derived.Test.YtjioipecaemckaaChecked
import GoSem.Claim
import GoSem.ClaimJoined
import GoSem.ClaimMapViews
import Derived.JoinedTies
import Derived.KernelRfl
namespace Go.Proofs.Ytjioipecaemckaa
/- THE CELL 'sum', in the pinned program and in every row, IS THE sha256 OF THE DUMP (.gsa) THAT YtjioipecaemckaaProg.lean LOADS. Nothing in Lean hashes anything: it is a label: what it is worth is what the hold of that sum in a sandbox is worth. -/
noncomputable def Try.pinned : Pinned := { name := "ytjioipecaemckaa", sum := "27cf93fe3d299e9433baf82c3ad1dc3e2c85b186506c757d925044c4bf4f64c6", checked := Try.checked }
namespace Rows
def none {H : Type} : Left H := { results := [], args := [] }

/-- 'speculatelaw19.PredictTells': WHATEVER THE INPUT: true; the input reads as it did. -/
def predictTellsSpec : ChangeSpec := { name := "predictTells", fn := fun _ => fun
  | [d1, d2, d3, d4, d5] => { results := [.lit (.bool true)], args := [d1, d2, d3, d4, d5] }
  | _ => none }
def predictTellsRow : OpenClaim := { program := "ytjioipecaemckaa", sum := "27cf93fe3d299e9433baf82c3ad1dc3e2c85b186506c757d925044c4bf4f64c6", func := "speculate/speculatelaw19.PredictTells", spec := "predictTells", inPlace := ["slices.overlaps[speculate/api.Track]"], unfollowed := true, recurses := true, apart := false }
def PredictTellsSaid : Prop := predictTellsRow.holds Try.pinned (OpenSpec.ofChange predictTellsSpec)

/-- ITS FALSE NEIGHBOUR: 'it returns false'. Refute it at one input. -/
def predictTellsWrong : ChangeSpec := { name := "predictTells", fn := fun _ => fun
  | [d1, d2, d3, d4, d5] => { results := [.lit (.bool false)], args := [d1, d2, d3, d4, d5] }
  | _ => none }
def PredictTellsWrongFalsely : Prop := predictTellsRow.holds Try.pinned (OpenSpec.ofChange predictTellsWrong)

/-- 'speculatelaw19.PredictLines': WHATEVER THE INPUT: true; the input reads as it did. -/
def predictLinesSpec : ChangeSpec := { name := "predictLines", fn := fun _ => fun
  | [d1, d2, d3, d4, d5] => { results := [.lit (.bool true)], args := [d1, d2, d3, d4, d5] }
  | _ => none }
def predictLinesRow : OpenClaim := { program := "ytjioipecaemckaa", sum := "27cf93fe3d299e9433baf82c3ad1dc3e2c85b186506c757d925044c4bf4f64c6", func := "speculate/speculatelaw19.PredictLines", spec := "predictLines", inPlace := ["slices.overlaps[speculate/api.Track]"], unfollowed := true, recurses := true, apart := false }
def PredictLinesSaid : Prop := predictLinesRow.holds Try.pinned (OpenSpec.ofChange predictLinesSpec)

/-- ITS FALSE NEIGHBOUR: 'it returns false'. Refute it at one input. -/
def predictLinesWrong : ChangeSpec := { name := "predictLines", fn := fun _ => fun
  | [d1, d2, d3, d4, d5] => { results := [.lit (.bool false)], args := [d1, d2, d3, d4, d5] }
  | _ => none }
def PredictLinesWrongFalsely : Prop := predictLinesRow.holds Try.pinned (OpenSpec.ofChange predictLinesWrong)

/-- 'speculatelaw19.PredictKeys': WHATEVER THE INPUT: true; the input reads as it did. -/
def predictKeysSpec : ChangeSpec := { name := "predictKeys", fn := fun _ => fun
  | [d1, d2, d3, d4, d5, d6] => { results := [.lit (.bool true)], args := [d1, d2, d3, d4, d5, d6] }
  | _ => none }
def predictKeysRow : OpenClaim := { program := "ytjioipecaemckaa", sum := "27cf93fe3d299e9433baf82c3ad1dc3e2c85b186506c757d925044c4bf4f64c6", func := "speculate/speculatelaw19.PredictKeys", spec := "predictKeys", inPlace := ["slices.overlaps[speculate/api.Track]"], unfollowed := true, recurses := true, apart := false }
def PredictKeysSaid : Prop := predictKeysRow.holds Try.pinned (OpenSpec.ofChange predictKeysSpec)

/-- ITS FALSE NEIGHBOUR: 'it returns false'. Refute it at one input. -/
def predictKeysWrong : ChangeSpec := { name := "predictKeys", fn := fun _ => fun
  | [d1, d2, d3, d4, d5, d6] => { results := [.lit (.bool false)], args := [d1, d2, d3, d4, d5, d6] }
  | _ => none }
def PredictKeysWrongFalsely : Prop := predictKeysRow.holds Try.pinned (OpenSpec.ofChange predictKeysWrong)

/-- 'speculatelaw19.PredictReferences': WHATEVER THE INPUT: true; the input reads as it did. -/
def predictReferencesSpec : ChangeSpec := { name := "predictReferences", fn := fun _ => fun
  | [d1, d2, d3, d4] => { results := [.lit (.bool true)], args := [d1, d2, d3, d4] }
  | _ => none }
def predictReferencesRow : OpenClaim := { program := "ytjioipecaemckaa", sum := "27cf93fe3d299e9433baf82c3ad1dc3e2c85b186506c757d925044c4bf4f64c6", func := "speculate/speculatelaw19.PredictReferences", spec := "predictReferences", inPlace := ["slices.overlaps[speculate/api.Track]"], unfollowed := true, recurses := true, apart := false }
def PredictReferencesSaid : Prop := predictReferencesRow.holds Try.pinned (OpenSpec.ofChange predictReferencesSpec)

/-- ITS FALSE NEIGHBOUR: 'it returns false'. Refute it at one input. -/
def predictReferencesWrong : ChangeSpec := { name := "predictReferences", fn := fun _ => fun
  | [d1, d2, d3, d4] => { results := [.lit (.bool false)], args := [d1, d2, d3, d4] }
  | _ => none }
def PredictReferencesWrongFalsely : Prop := predictReferencesRow.holds Try.pinned (OpenSpec.ofChange predictReferencesWrong)

/- THE SECOND FORM. 'bulk': how many values and letters a reading holds, each counted each time it is reached (what is shared counts as often as it is met; a slice's spare places count too). A statement '..UptoSaid' is the law's where the arguments, and the package variables that the reading takes, are together of bulk at most 1048576: NARROWER than '..Said'. Prove '..Said' where nothing that the law and all that it calls make is longer than what came in: it says more and counts as full. Else prove '..UptoSaid'. A law counts once. -/
mutual
def uptoBulk {H : Type} : DataW H → Nat
  | .lit (.string bytes) => bytes.length + 1
  | .lit _ => 1
  | .nil => 1
  | .ptr d => uptoBulk d + 1
  | .slice elems spare => uptoBulkAll elems + uptoBulkAll spare + 1
  | .agg parts => uptoBulkAll parts + 1
  | .iface _ d => uptoBulk d + 1
  | .map entries => uptoBulkEntries entries + 1
  | .held _ => 1
def uptoBulkAll {H : Type} : List (DataW H) → Nat
  | [] => 0
  | d :: r => uptoBulk d + uptoBulkAll r
def uptoBulkEntries {H : Type} : List (Lit × DataW H) → Nat
  | [] => 0
  | x :: r => uptoBulkEntry x + uptoBulkEntries r
def uptoBulkEntry {H : Type} : Lit × DataW H → Nat
  | (.string bytes, d) => bytes.length + uptoBulk d + 1
  | (_, d) => uptoBulk d + 1
 end
def uptoSmall : (H : Type) → List (DataW H) → Bool := fun _ ds => decide (uptoBulkAll ds ≤ 1048576)
def OpenSpec.upto (s : _root_.Go.ChangeSpec) : _root_.Go.OpenSpec := { _root_.Go.OpenSpec.ofChange s with cond := some uptoSmall }

/-- 'speculatelaw19.PredictTells', WHERE WHAT IT READS IS OF BULK AT MOST 1048576: true; the input reads as it did. -/
def predictTellsUptoRow : OpenClaim := { program := "ytjioipecaemckaa", sum := "27cf93fe3d299e9433baf82c3ad1dc3e2c85b186506c757d925044c4bf4f64c6", func := "speculate/speculatelaw19.PredictTells", spec := "predictTells", inPlace := ["slices.overlaps[speculate/api.Track]"], unfollowed := true, recurses := true, apart := false, narrowed := true }
def PredictTellsUptoSaid : Prop := predictTellsUptoRow.holds Try.pinned (OpenSpec.upto predictTellsSpec)

/-- 'speculatelaw19.PredictLines', WHERE WHAT IT READS IS OF BULK AT MOST 1048576: true; the input reads as it did. -/
def predictLinesUptoRow : OpenClaim := { program := "ytjioipecaemckaa", sum := "27cf93fe3d299e9433baf82c3ad1dc3e2c85b186506c757d925044c4bf4f64c6", func := "speculate/speculatelaw19.PredictLines", spec := "predictLines", inPlace := ["slices.overlaps[speculate/api.Track]"], unfollowed := true, recurses := true, apart := false, narrowed := true }
def PredictLinesUptoSaid : Prop := predictLinesUptoRow.holds Try.pinned (OpenSpec.upto predictLinesSpec)

/-- 'speculatelaw19.PredictKeys', WHERE WHAT IT READS IS OF BULK AT MOST 1048576: true; the input reads as it did. -/
def predictKeysUptoRow : OpenClaim := { program := "ytjioipecaemckaa", sum := "27cf93fe3d299e9433baf82c3ad1dc3e2c85b186506c757d925044c4bf4f64c6", func := "speculate/speculatelaw19.PredictKeys", spec := "predictKeys", inPlace := ["slices.overlaps[speculate/api.Track]"], unfollowed := true, recurses := true, apart := false, narrowed := true }
def PredictKeysUptoSaid : Prop := predictKeysUptoRow.holds Try.pinned (OpenSpec.upto predictKeysSpec)

/-- 'speculatelaw19.PredictReferences', WHERE WHAT IT READS IS OF BULK AT MOST 1048576: true; the input reads as it did. -/
def predictReferencesUptoRow : OpenClaim := { program := "ytjioipecaemckaa", sum := "27cf93fe3d299e9433baf82c3ad1dc3e2c85b186506c757d925044c4bf4f64c6", func := "speculate/speculatelaw19.PredictReferences", spec := "predictReferences", inPlace := ["slices.overlaps[speculate/api.Track]"], unfollowed := true, recurses := true, apart := false, narrowed := true }
def PredictReferencesUptoSaid : Prop := predictReferencesUptoRow.holds Try.pinned (OpenSpec.upto predictReferencesSpec)

end Rows
end Go.Proofs.Ytjioipecaemckaa
