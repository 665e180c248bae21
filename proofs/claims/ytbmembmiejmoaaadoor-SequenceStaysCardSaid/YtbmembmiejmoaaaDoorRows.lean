/-
  NARROWER THAN 'FOR EVERY INPUT', by the rows' own cells (each row's printed sentence says how): SequenceTells: laid · SequenceLinks: laid · SequenceStays: laid.
  DERIVED. THE GIVEN ROWS OF THIS SEAT. 3 by the template 'for every input the law returns true; each argument reads behind the call as it read before'; 0 by the template 'total and deterministic' (their statements: YtbmembmiejmoaaaDoorTotals.lean).
  GIVEN WITH THE SEED: the statements are not yours to turn. If you find one false, say at which input.
  Laid BY PROGRAM, IN A SANDBOX (cutbox-rows.mjs): the forced cells as the released guide's own fill.sh prints them over the translation f88248392964f582… (all of the seat's roots in one cut). By AI agents, Wed Nov 11 2026. No macro, syntax, notation, axiom, sorry.
-/
import Derived.Test.YtbmembmiejmoaaaDoorChecked
import GoSem.Claim
import GoSem.ClaimJoined
import GoSem.ClaimMapViews
import Derived.JoinedTies
import Derived.KernelRfl
namespace Go.Proofs.YtbmembmiejmoaaaDoor
/- THE CELL 'sum', in the pinned program and in every row, IS THE sha256 OF THE DUMP (.gsa) THAT YtbmembmiejmoaaaDoorProg.lean LOADS. Nothing in Lean hashes anything: it is a label: what it is worth is what the hold of that sum in a sandbox is worth. -/
noncomputable def Tryd.pinned : Pinned := { name := "ytbmembmiejmoaaadoor", sum := "f88248392964f5820fbad74d582e1fc8e9abc0cea517f7af2a901c09171c03d6", checked := Tryd.checked }
namespace Rows
def none {H : Type} : Left H := { results := [], args := [] }

/- WHAT THE LISTED PACKAGE-LEVEL VARIABLES READ AS WHEN THE CALL BEGINS. Each datum BY PROGRAM (the guide's laid-datum.mjs) off the statement by which the dump's own 'gosem.cut.vars' lays the variable. In a bare row this is a premise. The card (YtbmembmiejmoaaaDoorCards.lean) ties it to the program's text. -/
def laid_speculate_value_units {H : Type} : DataW H := .map [(.int .i64 1, .lit (.int .i64 0)), (.int .i64 3, .lit (.int .i64 1)), (.int .i64 5, .lit (.int .i64 9223372036854775807)), (.int .i64 6, .lit (.int .i64 (-9223372036854775808))), (.int .i64 7, .lit (.int .i64 (-1))), (.int .i64 8, .lit (.int .i64 0)), (.int .i64 9, .lit (.int .i64 0))]
def laid_speculate_code_table {H : Type} : DataW H := .agg [.agg [.lit (.int .i64 0), .lit (.int .i64 0), .lit (.int .i64 0), .lit (.int .i64 0)], .agg [.lit (.int .i64 1), .lit (.int .i64 0), .lit (.int .i64 0), .lit (.int .i64 2)], .agg [.lit (.int .i64 1), .lit (.int .i64 0), .lit (.int .i64 0), .lit (.int .i64 0)], .agg [.lit (.int .i64 1), .lit (.int .i64 1), .lit (.int .i64 0), .lit (.int .i64 0)], .agg [.lit (.int .i64 1), .lit (.int .i64 1), .lit (.int .i64 1), .lit (.int .i64 6)], .agg [.lit (.int .i64 1), .lit (.int .i64 1), .lit (.int .i64 0), .lit (.int .i64 3)], .agg [.lit (.int .i64 1), .lit (.int .i64 1), .lit (.int .i64 0), .lit (.int .i64 3)], .agg [.lit (.int .i64 1), .lit (.int .i64 0), .lit (.int .i64 0), .lit (.int .i64 4)], .agg [.lit (.int .i64 1), .lit (.int .i64 0), .lit (.int .i64 0), .lit (.int .i64 5)], .agg [.lit (.int .i64 1), .lit (.int .i64 0), .lit (.int .i64 0), .lit (.int .i64 5)], .agg [.lit (.int .i64 1), .lit (.int .i64 7), .lit (.int .i64 0), .lit (.int .i64 5)], .agg [.lit (.int .i64 0), .lit (.int .i64 0), .lit (.int .i64 0), .lit (.int .i64 8)], .agg [.lit (.int .i64 1), .lit (.int .i64 0), .lit (.int .i64 0), .lit (.int .i64 8)], .agg [.lit (.int .i64 0), .lit (.int .i64 10), .lit (.int .i64 11), .lit (.int .i64 9)], .agg [.lit (.int .i64 1), .lit (.int .i64 0), .lit (.int .i64 0), .lit (.int .i64 0)], .agg [.lit (.int .i64 1), .lit (.int .i64 0), .lit (.int .i64 0), .lit (.int .i64 0)], .agg [.lit (.int .i64 1), .lit (.int .i64 0), .lit (.int .i64 0), .lit (.int .i64 0)], .agg [.lit (.int .i64 0), .lit (.int .i64 0), .lit (.int .i64 0), .lit (.int .i64 12)], .agg [.lit (.int .i64 1), .lit (.int .i64 0), .lit (.int .i64 0), .lit (.int .i64 0)], .agg [.lit (.int .i64 1), .lit (.int .i64 0), .lit (.int .i64 0), .lit (.int .i64 0)], .agg [.lit (.int .i64 0), .lit (.int .i64 0), .lit (.int .i64 0), .lit (.int .i64 5)], .agg [.lit (.int .i64 0), .lit (.int .i64 0), .lit (.int .i64 0), .lit (.int .i64 13)]]

/-- 'speculatelaw20.SequenceTells': WHATEVER THE INPUT: true; the input reads as it did. -/
def sequenceTellsSpec : ChangeSpec := { name := "sequenceTells", fn := fun _ => fun
  | [d1, d2, d3] => { results := [.lit (.bool true)], args := [d1, d2, d3] }
  | _ => none }
def sequenceTellsRow : OpenClaim := { program := "ytbmembmiejmoaaadoor", sum := "f88248392964f5820fbad74d582e1fc8e9abc0cea517f7af2a901c09171c03d6", func := "speculate/speculatelaw20.SequenceTells", spec := "sequenceTells", inPlace := ["slices.overlaps[speculate/api.Follow]"], unfollowed := true, recurses := true, named := ["speculate/code.table", "speculate/value.operators", "speculate/value.units"], apart := false, laid := [("speculate/value.units", laid_speculate_value_units), ("speculate/code.table", laid_speculate_code_table)] }
def SequenceTellsSaid : Prop := sequenceTellsRow.holds Tryd.pinned (OpenSpec.ofChange sequenceTellsSpec)

/-- ITS FALSE NEIGHBOUR: 'it returns false'. Refute it at one input. -/
def sequenceTellsWrong : ChangeSpec := { name := "sequenceTells", fn := fun _ => fun
  | [d1, d2, d3] => { results := [.lit (.bool false)], args := [d1, d2, d3] }
  | _ => none }
def SequenceTellsWrongFalsely : Prop := sequenceTellsRow.holds Tryd.pinned (OpenSpec.ofChange sequenceTellsWrong)

/-- 'speculatelaw20.SequenceLinks': WHATEVER THE INPUT: true; the input reads as it did. -/
def sequenceLinksSpec : ChangeSpec := { name := "sequenceLinks", fn := fun _ => fun
  | [d] => { results := [.lit (.bool true)], args := [d] }
  | _ => none }
def sequenceLinksRow : OpenClaim := { program := "ytbmembmiejmoaaadoor", sum := "f88248392964f5820fbad74d582e1fc8e9abc0cea517f7af2a901c09171c03d6", func := "speculate/speculatelaw20.SequenceLinks", spec := "sequenceLinks", inPlace := ["slices.overlaps[speculate/api.Follow]"], unfollowed := true, recurses := true, named := ["speculate/code.table", "speculate/value.operators", "speculate/value.units"], apart := false, laid := [("speculate/value.units", laid_speculate_value_units), ("speculate/code.table", laid_speculate_code_table)] }
def SequenceLinksSaid : Prop := sequenceLinksRow.holds Tryd.pinned (OpenSpec.ofChange sequenceLinksSpec)

/-- ITS FALSE NEIGHBOUR: 'it returns false'. Refute it at one input. -/
def sequenceLinksWrong : ChangeSpec := { name := "sequenceLinks", fn := fun _ => fun
  | [d] => { results := [.lit (.bool false)], args := [d] }
  | _ => none }
def SequenceLinksWrongFalsely : Prop := sequenceLinksRow.holds Tryd.pinned (OpenSpec.ofChange sequenceLinksWrong)

/-- 'speculatelaw20.SequenceStays': WHATEVER THE INPUT: true; the input reads as it did. -/
def sequenceStaysSpec : ChangeSpec := { name := "sequenceStays", fn := fun _ => fun
  | [d1, d2, d3, d4, d5] => { results := [.lit (.bool true)], args := [d1, d2, d3, d4, d5] }
  | _ => none }
def sequenceStaysRow : OpenClaim := { program := "ytbmembmiejmoaaadoor", sum := "f88248392964f5820fbad74d582e1fc8e9abc0cea517f7af2a901c09171c03d6", func := "speculate/speculatelaw20.SequenceStays", spec := "sequenceStays", inPlace := ["slices.overlaps[speculate/api.Follow]"], unfollowed := true, recurses := true, named := ["speculate/code.table", "speculate/value.operators", "speculate/value.units"], apart := false, laid := [("speculate/value.units", laid_speculate_value_units), ("speculate/code.table", laid_speculate_code_table)] }
def SequenceStaysSaid : Prop := sequenceStaysRow.holds Tryd.pinned (OpenSpec.ofChange sequenceStaysSpec)

/-- ITS FALSE NEIGHBOUR: 'it returns false'. Refute it at one input. -/
def sequenceStaysWrong : ChangeSpec := { name := "sequenceStays", fn := fun _ => fun
  | [d1, d2, d3, d4, d5] => { results := [.lit (.bool false)], args := [d1, d2, d3, d4, d5] }
  | _ => none }
def SequenceStaysWrongFalsely : Prop := sequenceStaysRow.holds Tryd.pinned (OpenSpec.ofChange sequenceStaysWrong)

/- THE SECOND FORM. 'bulk': how many values and letters a reading holds, each counted each time it is reached (what is shared counts as often as it is met; a slice's spare places count too). A statement '..UptoSaid' is the law's where the arguments, and the package variables that the reading takes, are together of bulk at most 1048576: NARROWER than '..Said'. Prove '..Said' where nothing that the law and all that it calls make is longer than what came in: it says more and counts as full. Else prove '..UptoSaid'. A law counts once. -/
mutual
def uptoBulk {H : Type} : DataW H → Nat
  | .lit (.string bytes) => bytes.length + 1
  | .lit _ => 1
  | .nil => 1
  | .ptr d => uptoBulk d + 1
  | .slice elems spare => uptoBulkAll elems + uptoBulkAll spare + 1
  | .agg parts => uptoBulkAll parts + 1
  | .iface _ d => uptoBulk d + 1
  | .map entries => uptoBulkEntries entries + 1
  | .held _ => 1
def uptoBulkAll {H : Type} : List (DataW H) → Nat
  | [] => 0
  | d :: r => uptoBulk d + uptoBulkAll r
def uptoBulkEntries {H : Type} : List (Lit × DataW H) → Nat
  | [] => 0
  | x :: r => uptoBulkEntry x + uptoBulkEntries r
def uptoBulkEntry {H : Type} : Lit × DataW H → Nat
  | (.string bytes, d) => bytes.length + uptoBulk d + 1
  | (_, d) => uptoBulk d + 1
 end
def uptoSmall : (H : Type) → List (DataW H) → Bool := fun _ ds => decide (uptoBulkAll ds ≤ 1048576)
def OpenSpec.upto (s : _root_.Go.ChangeSpec) : _root_.Go.OpenSpec := { _root_.Go.OpenSpec.ofChange s with cond := some uptoSmall }

/-- 'speculatelaw20.SequenceTells', WHERE WHAT IT READS IS OF BULK AT MOST 1048576: true; the input reads as it did. -/
def sequenceTellsUptoRow : OpenClaim := { program := "ytbmembmiejmoaaadoor", sum := "f88248392964f5820fbad74d582e1fc8e9abc0cea517f7af2a901c09171c03d6", func := "speculate/speculatelaw20.SequenceTells", spec := "sequenceTells", inPlace := ["slices.overlaps[speculate/api.Follow]"], unfollowed := true, recurses := true, named := ["speculate/code.table", "speculate/value.operators", "speculate/value.units"], apart := false, laid := [("speculate/value.units", laid_speculate_value_units), ("speculate/code.table", laid_speculate_code_table)], narrowed := true }
def SequenceTellsUptoSaid : Prop := sequenceTellsUptoRow.holds Tryd.pinned (OpenSpec.upto sequenceTellsSpec)

/-- 'speculatelaw20.SequenceLinks', WHERE WHAT IT READS IS OF BULK AT MOST 1048576: true; the input reads as it did. -/
def sequenceLinksUptoRow : OpenClaim := { program := "ytbmembmiejmoaaadoor", sum := "f88248392964f5820fbad74d582e1fc8e9abc0cea517f7af2a901c09171c03d6", func := "speculate/speculatelaw20.SequenceLinks", spec := "sequenceLinks", inPlace := ["slices.overlaps[speculate/api.Follow]"], unfollowed := true, recurses := true, named := ["speculate/code.table", "speculate/value.operators", "speculate/value.units"], apart := false, laid := [("speculate/value.units", laid_speculate_value_units), ("speculate/code.table", laid_speculate_code_table)], narrowed := true }
def SequenceLinksUptoSaid : Prop := sequenceLinksUptoRow.holds Tryd.pinned (OpenSpec.upto sequenceLinksSpec)

/-- 'speculatelaw20.SequenceStays', WHERE WHAT IT READS IS OF BULK AT MOST 1048576: true; the input reads as it did. -/
def sequenceStaysUptoRow : OpenClaim := { program := "ytbmembmiejmoaaadoor", sum := "f88248392964f5820fbad74d582e1fc8e9abc0cea517f7af2a901c09171c03d6", func := "speculate/speculatelaw20.SequenceStays", spec := "sequenceStays", inPlace := ["slices.overlaps[speculate/api.Follow]"], unfollowed := true, recurses := true, named := ["speculate/code.table", "speculate/value.operators", "speculate/value.units"], apart := false, laid := [("speculate/value.units", laid_speculate_value_units), ("speculate/code.table", laid_speculate_code_table)], narrowed := true }
def SequenceStaysUptoSaid : Prop := sequenceStaysUptoRow.holds Tryd.pinned (OpenSpec.upto sequenceStaysSpec)

end Rows
end Go.Proofs.YtbmembmiejmoaaaDoor
