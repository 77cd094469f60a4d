/-
  DERIVED. GIVEN WITH THE SEED: THE CARDS: each row of YtjnhfmicadcmnaaDoorRows.lean that lists a variable, with what it lists TIED to the program's text (the seventh form; the later family's looks); each row that meets fmt, with fmt's text TOLD by the authors' own Lean function (tested against real Go, not proved from fmt's source: count such statements apart). THE CARD IS WHAT COUNTS. Prove the row's statement (the work); the ties are given (YtjnhfmicadcmnaaDoorTie.lean); close each card by the builder's one call (the guide's Derived/Test/ToyasCard.lean, 'card_holds'). Laid BY PROGRAM, IN A SANDBOX (cutbox-door.mjs). By AI agents, Wed Nov 11 2026. No macro, syntax, notation, axiom, sorry.
-/
import Derived.Test.YtjnhfmicadcmnaaDoorRows
import GoSem.ClaimSeven
namespace Go.Proofs.YtjnhfmicadcmnaaDoor
namespace Rows

/-- THE TIED CARD OF 'barbicanlaw04.ShaSums'. -/
def shaSumsCard : Claim7 := { stood := { row := shaSumsRow, standIns := [], harness := (true, "cf9fd5ed1a35241449bdaaa2b25efe64d5ec84e16c670786fb129100a598f3e1"), looks := false }, kinds := [], alts := [], laidByText := true, laidKinds := [.data, .data], laidTests := true, laidLooks := .later }
def ShaSumsCardSaid : Prop := Claim7.holds Tryd.pinned (.plain (OpenSpec.ofChange shaSumsSpec)) shaSumsCard

/-- THE TIED CARD OF 'barbicanlaw04.ShaEnds'. -/
def shaEndsCard : Claim7 := { stood := { row := shaEndsRow, standIns := [], harness := (true, "cf9fd5ed1a35241449bdaaa2b25efe64d5ec84e16c670786fb129100a598f3e1"), looks := false }, kinds := [], alts := [], laidByText := true, laidKinds := [.data, .data], laidTests := true, laidLooks := .later }
def ShaEndsCardSaid : Prop := Claim7.holds Tryd.pinned (.plain (OpenSpec.ofChange shaEndsSpec)) shaEndsCard

/-- THE TIED CARD OF 'barbicanlaw04.ShaApart'. -/
def shaApartCard : Claim7 := { stood := { row := shaApartRow, standIns := [], harness := (true, "cf9fd5ed1a35241449bdaaa2b25efe64d5ec84e16c670786fb129100a598f3e1"), looks := false }, kinds := [], alts := [], laidByText := true, laidKinds := [.data, .data], laidTests := true, laidLooks := .later }
def ShaApartCardSaid : Prop := Claim7.holds Tryd.pinned (.plain (OpenSpec.ofChange shaApartSpec)) shaApartCard

/-- THE TIED CARD OF 'barbicanlaw04.ShaKnown'. -/
def shaKnownCard : Claim7 := { stood := { row := shaKnownRow, standIns := [], harness := (true, "cf9fd5ed1a35241449bdaaa2b25efe64d5ec84e16c670786fb129100a598f3e1"), looks := false }, kinds := [], alts := [], laidByText := true, laidKinds := [.data, .data], laidTests := true, laidLooks := .later }
def ShaKnownCardSaid : Prop := Claim7.holds Tryd.pinned (.plain (OpenSpec.ofChange shaKnownSpec)) shaKnownCard

/-- THE TIED CARD OF 'barbicanlaw05.MacTags'. -/
def macTagsCard : Claim7 := { stood := { row := macTagsRow, standIns := [], harness := (true, "cf9fd5ed1a35241449bdaaa2b25efe64d5ec84e16c670786fb129100a598f3e1"), looks := false }, kinds := [], alts := [], laidByText := true, laidKinds := [.data, .data], laidTests := true, laidLooks := .later }
def MacTagsCardSaid : Prop := Claim7.holds Tryd.pinned (.plain (OpenSpec.ofChange macTagsSpec)) macTagsCard

/-- THE TIED CARD OF 'barbicanlaw05.MacNumbers'. -/
def macNumbersCard : Claim7 := { stood := { row := macNumbersRow, standIns := [], harness := (true, "cf9fd5ed1a35241449bdaaa2b25efe64d5ec84e16c670786fb129100a598f3e1"), looks := false }, kinds := [], alts := [], laidByText := true, laidKinds := [.data, .data], laidTests := true, laidLooks := .later }
def MacNumbersCardSaid : Prop := Claim7.holds Tryd.pinned (.plain (OpenSpec.ofChange macNumbersSpec)) macNumbersCard

/-- THE TIED CARD OF 'barbicanlaw05.MacFits'. -/
def macFitsCard : Claim7 := { stood := { row := macFitsRow, standIns := [], harness := (true, "cf9fd5ed1a35241449bdaaa2b25efe64d5ec84e16c670786fb129100a598f3e1"), looks := false }, kinds := [], alts := [], laidByText := true, laidKinds := [.data, .data], laidTests := true, laidLooks := .later }
def MacFitsCardSaid : Prop := Claim7.holds Tryd.pinned (.plain (OpenSpec.ofChange macFitsSpec)) macFitsCard

/-- THE SECOND FORM's CARD OF 'barbicanlaw04.ShaSums'. -/
def shaSumsUptoCard : Claim7 := { stood := { row := shaSumsUptoRow, standIns := [], harness := (true, "cf9fd5ed1a35241449bdaaa2b25efe64d5ec84e16c670786fb129100a598f3e1"), looks := false }, kinds := [], alts := [], laidByText := true, laidKinds := [.data, .data], laidTests := true, laidLooks := .later }
def ShaSumsUptoCardSaid : Prop := Claim7.holds Tryd.pinned (.plain (OpenSpec.upto shaSumsSpec)) shaSumsUptoCard

/-- THE SECOND FORM's CARD OF 'barbicanlaw04.ShaEnds'. -/
def shaEndsUptoCard : Claim7 := { stood := { row := shaEndsUptoRow, standIns := [], harness := (true, "cf9fd5ed1a35241449bdaaa2b25efe64d5ec84e16c670786fb129100a598f3e1"), looks := false }, kinds := [], alts := [], laidByText := true, laidKinds := [.data, .data], laidTests := true, laidLooks := .later }
def ShaEndsUptoCardSaid : Prop := Claim7.holds Tryd.pinned (.plain (OpenSpec.upto shaEndsSpec)) shaEndsUptoCard

/-- THE SECOND FORM's CARD OF 'barbicanlaw04.ShaApart'. -/
def shaApartUptoCard : Claim7 := { stood := { row := shaApartUptoRow, standIns := [], harness := (true, "cf9fd5ed1a35241449bdaaa2b25efe64d5ec84e16c670786fb129100a598f3e1"), looks := false }, kinds := [], alts := [], laidByText := true, laidKinds := [.data, .data], laidTests := true, laidLooks := .later }
def ShaApartUptoCardSaid : Prop := Claim7.holds Tryd.pinned (.plain (OpenSpec.upto shaApartSpec)) shaApartUptoCard

/-- THE SECOND FORM's CARD OF 'barbicanlaw04.ShaKnown'. -/
def shaKnownUptoCard : Claim7 := { stood := { row := shaKnownUptoRow, standIns := [], harness := (true, "cf9fd5ed1a35241449bdaaa2b25efe64d5ec84e16c670786fb129100a598f3e1"), looks := false }, kinds := [], alts := [], laidByText := true, laidKinds := [.data, .data], laidTests := true, laidLooks := .later }
def ShaKnownUptoCardSaid : Prop := Claim7.holds Tryd.pinned (.plain (OpenSpec.upto shaKnownSpec)) shaKnownUptoCard

/-- THE SECOND FORM's CARD OF 'barbicanlaw05.MacTags'. -/
def macTagsUptoCard : Claim7 := { stood := { row := macTagsUptoRow, standIns := [], harness := (true, "cf9fd5ed1a35241449bdaaa2b25efe64d5ec84e16c670786fb129100a598f3e1"), looks := false }, kinds := [], alts := [], laidByText := true, laidKinds := [.data, .data], laidTests := true, laidLooks := .later }
def MacTagsUptoCardSaid : Prop := Claim7.holds Tryd.pinned (.plain (OpenSpec.upto macTagsSpec)) macTagsUptoCard

/-- THE SECOND FORM's CARD OF 'barbicanlaw05.MacNumbers'. -/
def macNumbersUptoCard : Claim7 := { stood := { row := macNumbersUptoRow, standIns := [], harness := (true, "cf9fd5ed1a35241449bdaaa2b25efe64d5ec84e16c670786fb129100a598f3e1"), looks := false }, kinds := [], alts := [], laidByText := true, laidKinds := [.data, .data], laidTests := true, laidLooks := .later }
def MacNumbersUptoCardSaid : Prop := Claim7.holds Tryd.pinned (.plain (OpenSpec.upto macNumbersSpec)) macNumbersUptoCard

/-- THE SECOND FORM's CARD OF 'barbicanlaw05.MacFits'. -/
def macFitsUptoCard : Claim7 := { stood := { row := macFitsUptoRow, standIns := [], harness := (true, "cf9fd5ed1a35241449bdaaa2b25efe64d5ec84e16c670786fb129100a598f3e1"), looks := false }, kinds := [], alts := [], laidByText := true, laidKinds := [.data, .data], laidTests := true, laidLooks := .later }
def MacFitsUptoCardSaid : Prop := Claim7.holds Tryd.pinned (.plain (OpenSpec.upto macFitsSpec)) macFitsUptoCard
end Rows
end Go.Proofs.YtjnhfmicadcmnaaDoor
