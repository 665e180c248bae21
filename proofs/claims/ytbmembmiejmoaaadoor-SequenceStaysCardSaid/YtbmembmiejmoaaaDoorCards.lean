/-
  DERIVED. GIVEN WITH THE SEED: THE CARDS: each row of YtbmembmiejmoaaaDoorRows.lean that lists a variable, with what it lists TIED to the program's text (the seventh form; the later family's looks); each row that meets fmt, with fmt's text TOLD by the authors' own Lean function (tested against real Go, not proved from fmt's source: count such statements apart). THE CARD IS WHAT COUNTS. Prove the row's statement (the work); the ties are given (YtbmembmiejmoaaaDoorTie.lean); close each card by the builder's one call (the guide's Derived/Test/ToyasCard.lean, 'card_holds'). Laid BY PROGRAM, IN A SANDBOX (cutbox-door.mjs). By AI agents, Wed Nov 11 2026. No macro, syntax, notation, axiom, sorry.
-/
import Derived.Test.YtbmembmiejmoaaaDoorRows
import GoSem.ClaimSeven
namespace Go.Proofs.YtbmembmiejmoaaaDoor
namespace Rows

/-- THE TIED CARD OF 'speculatelaw20.SequenceTells'. -/
def sequenceTellsCard : Claim7 := { stood := { row := sequenceTellsRow, standIns := [], harness := (true, "3dd53c472d28f8c07659483f61f931deba23d5c842009b42bcee139b44c874dd"), looks := false }, kinds := [], alts := [], laidByText := true, laidKinds := [.mapped, .data], laidTests := true, laidLooks := .later }
def SequenceTellsCardSaid : Prop := Claim7.holds Tryd.pinned (.plain (OpenSpec.ofChange sequenceTellsSpec)) sequenceTellsCard

/-- THE TIED CARD OF 'speculatelaw20.SequenceLinks'. -/
def sequenceLinksCard : Claim7 := { stood := { row := sequenceLinksRow, standIns := [], harness := (true, "3dd53c472d28f8c07659483f61f931deba23d5c842009b42bcee139b44c874dd"), looks := false }, kinds := [], alts := [], laidByText := true, laidKinds := [.mapped, .data], laidTests := true, laidLooks := .later }
def SequenceLinksCardSaid : Prop := Claim7.holds Tryd.pinned (.plain (OpenSpec.ofChange sequenceLinksSpec)) sequenceLinksCard

/-- THE TIED CARD OF 'speculatelaw20.SequenceStays'. -/
def sequenceStaysCard : Claim7 := { stood := { row := sequenceStaysRow, standIns := [], harness := (true, "3dd53c472d28f8c07659483f61f931deba23d5c842009b42bcee139b44c874dd"), looks := false }, kinds := [], alts := [], laidByText := true, laidKinds := [.mapped, .data], laidTests := true, laidLooks := .later }
def SequenceStaysCardSaid : Prop := Claim7.holds Tryd.pinned (.plain (OpenSpec.ofChange sequenceStaysSpec)) sequenceStaysCard

/-- THE SECOND FORM's CARD OF 'speculatelaw20.SequenceTells'. -/
def sequenceTellsUptoCard : Claim7 := { stood := { row := sequenceTellsUptoRow, standIns := [], harness := (true, "3dd53c472d28f8c07659483f61f931deba23d5c842009b42bcee139b44c874dd"), looks := false }, kinds := [], alts := [], laidByText := true, laidKinds := [.mapped, .data], laidTests := true, laidLooks := .later }
def SequenceTellsUptoCardSaid : Prop := Claim7.holds Tryd.pinned (.plain (OpenSpec.upto sequenceTellsSpec)) sequenceTellsUptoCard

/-- THE SECOND FORM's CARD OF 'speculatelaw20.SequenceLinks'. -/
def sequenceLinksUptoCard : Claim7 := { stood := { row := sequenceLinksUptoRow, standIns := [], harness := (true, "3dd53c472d28f8c07659483f61f931deba23d5c842009b42bcee139b44c874dd"), looks := false }, kinds := [], alts := [], laidByText := true, laidKinds := [.mapped, .data], laidTests := true, laidLooks := .later }
def SequenceLinksUptoCardSaid : Prop := Claim7.holds Tryd.pinned (.plain (OpenSpec.upto sequenceLinksSpec)) sequenceLinksUptoCard

/-- THE SECOND FORM's CARD OF 'speculatelaw20.SequenceStays'. -/
def sequenceStaysUptoCard : Claim7 := { stood := { row := sequenceStaysUptoRow, standIns := [], harness := (true, "3dd53c472d28f8c07659483f61f931deba23d5c842009b42bcee139b44c874dd"), looks := false }, kinds := [], alts := [], laidByText := true, laidKinds := [.mapped, .data], laidTests := true, laidLooks := .later }
def SequenceStaysUptoCardSaid : Prop := Claim7.holds Tryd.pinned (.plain (OpenSpec.upto sequenceStaysSpec)) sequenceStaysUptoCard
end Rows
end Go.Proofs.YtbmembmiejmoaaaDoor
