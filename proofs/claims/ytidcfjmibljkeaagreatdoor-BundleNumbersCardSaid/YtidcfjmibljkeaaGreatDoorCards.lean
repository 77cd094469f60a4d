/-
  DERIVED. GIVEN WITH THE SEED: THE CARDS: each row of YtidcfjmibljkeaaGreatDoorRows.lean that lists a variable, with what it lists TIED to the program's text (the seventh form; the later family's looks); each row that meets fmt, with fmt's text TOLD by the authors' own Lean function (tested against real Go, not proved from fmt's source: count such statements apart). THE CARD IS WHAT COUNTS. Prove the row's statement (the work); the ties are given (YtidcfjmibljkeaaGreatDoorTie.lean); close each card by the builder's one call (the guide's Derived/Test/ToyasCard.lean, 'card_holds'). Laid BY PROGRAM, IN A SANDBOX (cutbox-door.mjs). By AI agents, Wed Nov 11 2026. No macro, syntax, notation, axiom, sorry.
-/
import Derived.Test.YtidcfjmibljkeaaGreatDoorRows
import GoSem.ClaimSeven
namespace Go.Proofs.YtidcfjmibljkeaaGreatDoor
namespace Rows

/-- THE TIED CARD OF 'barbicanlaw19.BundleMakes'. -/
def bundleMakesCard : Claim7 := { stood := { row := bundleMakesRow, standIns := [], harness := (true, "c510c613b14839266f2c73b4967562920b0788cb45be7f07bc72f27688a95d35"), looks := true }, kinds := [], alts := [], laidByText := true, laidKinds := [.data, .data], laidTests := true, laidLooks := .later }
def BundleMakesCardSaid : Prop := Claim7.holds Tryz.pinned (.plain (OpenSpec.ofChange bundleMakesSpec)) bundleMakesCard

/-- THE TIED CARD OF 'barbicanlaw19.BundleChecks'. -/
def bundleChecksCard : Claim7 := { stood := { row := bundleChecksRow, standIns := [], harness := (true, "c510c613b14839266f2c73b4967562920b0788cb45be7f07bc72f27688a95d35"), looks := true }, kinds := [], alts := [], laidByText := true, laidKinds := [.data, .data], laidTests := true, laidLooks := .later }
def BundleChecksCardSaid : Prop := Claim7.holds Tryz.pinned (.plain (OpenSpec.ofChange bundleChecksSpec)) bundleChecksCard

/-- THE TIED CARD OF 'barbicanlaw19.BundleGets'. -/
def bundleGetsCard : Claim7 := { stood := { row := bundleGetsRow, standIns := [], harness := (true, "c510c613b14839266f2c73b4967562920b0788cb45be7f07bc72f27688a95d35"), looks := true }, kinds := [], alts := [], laidByText := true, laidKinds := [.data, .data], laidTests := true, laidLooks := .later }
def BundleGetsCardSaid : Prop := Claim7.holds Tryz.pinned (.plain (OpenSpec.ofChange bundleGetsSpec)) bundleGetsCard

/-- THE TIED CARD OF 'barbicanlaw19.BundleNumbers'. -/
def bundleNumbersCard : Claim7 := { stood := { row := bundleNumbersRow, standIns := [], harness := (true, "c510c613b14839266f2c73b4967562920b0788cb45be7f07bc72f27688a95d35"), looks := true }, kinds := [], alts := [], laidByText := true, laidKinds := [.data, .data], laidTests := true, laidLooks := .later }
def BundleNumbersCardSaid : Prop := Claim7.holds Tryz.pinned (.plain (OpenSpec.ofChange bundleNumbersSpec)) bundleNumbersCard

/-- THE SECOND FORM's CARD OF 'barbicanlaw19.BundleMakes'. -/
def bundleMakesUptoCard : Claim7 := { stood := { row := bundleMakesUptoRow, standIns := [], harness := (true, "c510c613b14839266f2c73b4967562920b0788cb45be7f07bc72f27688a95d35"), looks := true }, kinds := [], alts := [], laidByText := true, laidKinds := [.data, .data], laidTests := true, laidLooks := .later }
def BundleMakesUptoCardSaid : Prop := Claim7.holds Tryz.pinned (.plain (OpenSpec.upto bundleMakesSpec)) bundleMakesUptoCard

/-- THE SECOND FORM's CARD OF 'barbicanlaw19.BundleChecks'. -/
def bundleChecksUptoCard : Claim7 := { stood := { row := bundleChecksUptoRow, standIns := [], harness := (true, "c510c613b14839266f2c73b4967562920b0788cb45be7f07bc72f27688a95d35"), looks := true }, kinds := [], alts := [], laidByText := true, laidKinds := [.data, .data], laidTests := true, laidLooks := .later }
def BundleChecksUptoCardSaid : Prop := Claim7.holds Tryz.pinned (.plain (OpenSpec.upto bundleChecksSpec)) bundleChecksUptoCard

/-- THE SECOND FORM's CARD OF 'barbicanlaw19.BundleGets'. -/
def bundleGetsUptoCard : Claim7 := { stood := { row := bundleGetsUptoRow, standIns := [], harness := (true, "c510c613b14839266f2c73b4967562920b0788cb45be7f07bc72f27688a95d35"), looks := true }, kinds := [], alts := [], laidByText := true, laidKinds := [.data, .data], laidTests := true, laidLooks := .later }
def BundleGetsUptoCardSaid : Prop := Claim7.holds Tryz.pinned (.plain (OpenSpec.upto bundleGetsSpec)) bundleGetsUptoCard

/-- THE SECOND FORM's CARD OF 'barbicanlaw19.BundleNumbers'. -/
def bundleNumbersUptoCard : Claim7 := { stood := { row := bundleNumbersUptoRow, standIns := [], harness := (true, "c510c613b14839266f2c73b4967562920b0788cb45be7f07bc72f27688a95d35"), looks := true }, kinds := [], alts := [], laidByText := true, laidKinds := [.data, .data], laidTests := true, laidLooks := .later }
def BundleNumbersUptoCardSaid : Prop := Claim7.holds Tryz.pinned (.plain (OpenSpec.upto bundleNumbersSpec)) bundleNumbersUptoCard
end Rows
end Go.Proofs.YtidcfjmibljkeaaGreatDoor
