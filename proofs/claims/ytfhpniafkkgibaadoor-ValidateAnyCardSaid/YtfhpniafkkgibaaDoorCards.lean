/-
  DERIVED. GIVEN WITH THE SEED: THE CARDS: each row of YtfhpniafkkgibaaDoorRows.lean that lists a variable, with what it lists TIED to the program's text (the seventh form; the later family's looks); each row that meets fmt, with fmt's text TOLD by the authors' own Lean function (tested against real Go, not proved from fmt's source: count such statements apart). THE CARD IS WHAT COUNTS. Prove the row's statement (the work); the ties are given (YtfhpniafkkgibaaDoorTie.lean); close each card by the builder's one call (the guide's Derived/Test/ToyasCard.lean, 'card_holds'). Laid BY PROGRAM, IN A SANDBOX (cutbox-door.mjs). By AI agents, Wed Nov 11 2026. No macro, syntax, notation, axiom, sorry.
-/
import Derived.Test.YtfhpniafkkgibaaDoorRows
import GoSem.ClaimSeven
namespace Go.Proofs.YtfhpniafkkgibaaDoor
namespace Rows

/-- THE TIED CARD OF 'speculatelaw21.ValidateAny'. -/
def validateAnyCard : Claim7 := { stood := { row := validateAnyRow, standIns := [], harness := (true, "07b7e3bfb03fe92f6d9ffcf708b8a3bd23aabaaf966407103aa0c09a098ca999"), looks := true }, kinds := [], alts := [], laidByText := true, laidKinds := [.handle], laidTests := true, laidLooks := .later }
def ValidateAnyCardSaid : Prop := Claim7.holds Tryd.pinned (.plain (OpenSpec.ofChange validateAnySpec)) validateAnyCard

/-- THE SECOND FORM's CARD OF 'speculatelaw21.ValidateAny'. -/
def validateAnyUptoCard : Claim7 := { stood := { row := validateAnyUptoRow, standIns := [], harness := (true, "07b7e3bfb03fe92f6d9ffcf708b8a3bd23aabaaf966407103aa0c09a098ca999"), looks := true }, kinds := [], alts := [], laidByText := true, laidKinds := [.handle], laidTests := true, laidLooks := .later }
def ValidateAnyUptoCardSaid : Prop := Claim7.holds Tryd.pinned (.plain (OpenSpec.upto validateAnySpec)) validateAnyUptoCard
end Rows
end Go.Proofs.YtfhpniafkkgibaaDoor
