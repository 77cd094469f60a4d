/-
  DERIVED. GIVEN WITH THE SEED: THE CARDS: each row of YtfeipbgnjainlaaGreatDoorRows.lean that lists a variable, with what it lists TIED to the program's text (the seventh form; the later family's looks); each row that meets fmt, with fmt's text TOLD by the authors' own Lean function (tested against real Go, not proved from fmt's source: count such statements apart). THE CARD IS WHAT COUNTS. Prove the row's statement (the work); the ties are given (YtfeipbgnjainlaaGreatDoorTie.lean); close each card by the builder's one call (the guide's Derived/Test/ToyasCard.lean, 'card_holds'). Laid BY PROGRAM, IN A SANDBOX (cutbox-door.mjs). By AI agents, Wed Nov 11 2026. No macro, syntax, notation, axiom, sorry.
-/
import Derived.Test.YtfeipbgnjainlaaGreatDoorRows
import GoSem.ClaimSeven
namespace Go.Proofs.YtfeipbgnjainlaaGreatDoor
namespace Rows

/-- THE TIED CARD OF 'barbicantop.TopPath'. -/
def topPathCard : Claim7 := { stood := { row := topPathRow, standIns := [], harness := (true, "26305961356f3bcc49384b50a8447055801f058ae5138702d21f7abb106446af"), looks := true }, kinds := [], alts := [], laidByText := true, laidKinds := [.handle], laidTests := true, laidLooks := .later }
def TopPathCardSaid : Prop := Claim7.holds Tryz.pinned (.plain (OpenSpec.ofChange topPathSpec)) topPathCard

/-- THE SECOND FORM's CARD OF 'barbicantop.TopPath'. -/
def topPathUptoCard : Claim7 := { stood := { row := topPathUptoRow, standIns := [], harness := (true, "26305961356f3bcc49384b50a8447055801f058ae5138702d21f7abb106446af"), looks := true }, kinds := [], alts := [], laidByText := true, laidKinds := [.handle], laidTests := true, laidLooks := .later }
def TopPathUptoCardSaid : Prop := Claim7.holds Tryz.pinned (.plain (OpenSpec.upto topPathSpec)) topPathUptoCard
end Rows
end Go.Proofs.YtfeipbgnjainlaaGreatDoor
