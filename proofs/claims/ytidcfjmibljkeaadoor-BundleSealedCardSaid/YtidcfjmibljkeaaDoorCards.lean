/-
  DERIVED. GIVEN WITH THE SEED: THE CARDS: each row of YtidcfjmibljkeaaDoorRows.lean that lists a variable, with what it lists TIED to the program's text (the seventh form; the later family's looks); each row that meets fmt, with fmt's text TOLD by the authors' own Lean function (tested against real Go, not proved from fmt's source: count such statements apart). THE CARD IS WHAT COUNTS. Prove the row's statement (the work); the ties are given (YtidcfjmibljkeaaDoorTie.lean); close each card by the builder's one call (the guide's Derived/Test/ToyasCard.lean, 'card_holds'). Laid BY PROGRAM, IN A SANDBOX (cutbox-door.mjs). By AI agents, Wed Nov 11 2026. No macro, syntax, notation, axiom, sorry.
-/
import Derived.Test.YtidcfjmibljkeaaDoorRows
import GoSem.ClaimSeven
namespace Go.Proofs.YtidcfjmibljkeaaDoor
namespace Rows

/-- THE TIED CARD OF 'barbicanlaw19.BundleSealed'. -/
def bundleSealedCard : Claim7 := { stood := { row := bundleSealedRow, standIns := [], harness := (true, "2fd84a4301e6a75783af0934748a8aaee575accb3c7695cc9a28046eb2729fd6"), looks := true }, kinds := [], alts := [], laidByText := true, laidKinds := [.data, .data], laidTests := true, laidLooks := .later }
def BundleSealedCardSaid : Prop := Claim7.holds Tryd.pinned (.plain (OpenSpec.ofChange bundleSealedSpec)) bundleSealedCard

/-- THE SECOND FORM's CARD OF 'barbicanlaw19.BundleSealed'. -/
def bundleSealedUptoCard : Claim7 := { stood := { row := bundleSealedUptoRow, standIns := [], harness := (true, "2fd84a4301e6a75783af0934748a8aaee575accb3c7695cc9a28046eb2729fd6"), looks := true }, kinds := [], alts := [], laidByText := true, laidKinds := [.data, .data], laidTests := true, laidLooks := .later }
def BundleSealedUptoCardSaid : Prop := Claim7.holds Tryd.pinned (.plain (OpenSpec.upto bundleSealedSpec)) bundleSealedUptoCard
end Rows
end Go.Proofs.YtidcfjmibljkeaaDoor
