/-
  DERIVED. GIVEN WITH THE SEED: THE CARDS: each row of YtihcljaphajdfaaDoorRows.lean that lists a variable, with what it lists TIED to the program's text (the seventh form; the later family's looks); each row that meets fmt, with fmt's text TOLD by the authors' own Lean function (tested against real Go, not proved from fmt's source: count such statements apart). THE CARD IS WHAT COUNTS. Prove the row's statement (the work); the ties are given (YtihcljaphajdfaaDoorTie.lean); close each card by the builder's one call (the guide's Derived/Test/ToyasCard.lean, 'card_holds'). Laid BY PROGRAM, IN A SANDBOX (cutbox-door.mjs). By AI agents, Wed Nov 11 2026. No macro, syntax, notation, axiom, sorry.
-/
import Derived.Test.YtihcljaphajdfaaDoorRows
import GoSem.ClaimSeven
namespace Go.Proofs.YtihcljaphajdfaaDoor
namespace Rows

/-- THE TIED CARD OF 'postbaglaw03.ListingTexts'. -/
def listingTextsCard : Claim7 := { stood := { row := listingTextsRow, standIns := [], harness := (true, "03ef004af4273e5de6907ece06e1b81b2d52620c1e3ce7af33e9fa2cbf26e0f0"), looks := true }, kinds := [], alts := [], laidByText := true, laidKinds := [.data, .data, .data, .data, .sentinel, .sentinel, .pinned], laidTests := true, laidLooks := .later }
def ListingTextsCardSaid : Prop := Claim7.holds Tryd.pinned (.plain (OpenSpec.ofChange listingTextsSpec)) listingTextsCard

/-- THE TIED CARD OF 'postbaglaw03.ListingParses'. -/
def listingParsesCard : Claim7 := { stood := { row := listingParsesRow, standIns := [], harness := (true, "03ef004af4273e5de6907ece06e1b81b2d52620c1e3ce7af33e9fa2cbf26e0f0"), looks := true }, kinds := [], alts := [], laidByText := true, laidKinds := [.data, .data, .data, .data, .sentinel, .sentinel, .pinned], laidTests := true, laidLooks := .later }
def ListingParsesCardSaid : Prop := Claim7.holds Tryd.pinned (.plain (OpenSpec.ofChange listingParsesSpec)) listingParsesCard

/-- THE TIED CARD OF 'postbaglaw03.ListingApart'. -/
def listingApartCard : Claim7 := { stood := { row := listingApartRow, standIns := [], harness := (true, "03ef004af4273e5de6907ece06e1b81b2d52620c1e3ce7af33e9fa2cbf26e0f0"), looks := true }, kinds := [], alts := [], laidByText := true, laidKinds := [.data, .data, .data, .data, .sentinel, .sentinel, .pinned], laidTests := true, laidLooks := .later }
def ListingApartCardSaid : Prop := Claim7.holds Tryd.pinned (.plain (OpenSpec.ofChange listingApartSpec)) listingApartCard

/-- THE TIED CARD OF 'postbaglaw03.ListingBack'. -/
def listingBackCard : Claim7 := { stood := { row := listingBackRow, standIns := [], harness := (true, "03ef004af4273e5de6907ece06e1b81b2d52620c1e3ce7af33e9fa2cbf26e0f0"), looks := true }, kinds := [], alts := [], laidByText := true, laidKinds := [.data, .data, .data, .data, .sentinel, .sentinel, .pinned], laidTests := true, laidLooks := .later }
def ListingBackCardSaid : Prop := Claim7.holds Tryd.pinned (.plain (OpenSpec.ofChange listingBackSpec)) listingBackCard

/-- THE SECOND FORM's CARD OF 'postbaglaw03.ListingTexts'. -/
def listingTextsUptoCard : Claim7 := { stood := { row := listingTextsUptoRow, standIns := [], harness := (true, "03ef004af4273e5de6907ece06e1b81b2d52620c1e3ce7af33e9fa2cbf26e0f0"), looks := true }, kinds := [], alts := [], laidByText := true, laidKinds := [.data, .data, .data, .data, .sentinel, .sentinel, .pinned], laidTests := true, laidLooks := .later }
def ListingTextsUptoCardSaid : Prop := Claim7.holds Tryd.pinned (.plain (OpenSpec.upto listingTextsSpec)) listingTextsUptoCard

/-- THE SECOND FORM's CARD OF 'postbaglaw03.ListingParses'. -/
def listingParsesUptoCard : Claim7 := { stood := { row := listingParsesUptoRow, standIns := [], harness := (true, "03ef004af4273e5de6907ece06e1b81b2d52620c1e3ce7af33e9fa2cbf26e0f0"), looks := true }, kinds := [], alts := [], laidByText := true, laidKinds := [.data, .data, .data, .data, .sentinel, .sentinel, .pinned], laidTests := true, laidLooks := .later }
def ListingParsesUptoCardSaid : Prop := Claim7.holds Tryd.pinned (.plain (OpenSpec.upto listingParsesSpec)) listingParsesUptoCard

/-- THE SECOND FORM's CARD OF 'postbaglaw03.ListingApart'. -/
def listingApartUptoCard : Claim7 := { stood := { row := listingApartUptoRow, standIns := [], harness := (true, "03ef004af4273e5de6907ece06e1b81b2d52620c1e3ce7af33e9fa2cbf26e0f0"), looks := true }, kinds := [], alts := [], laidByText := true, laidKinds := [.data, .data, .data, .data, .sentinel, .sentinel, .pinned], laidTests := true, laidLooks := .later }
def ListingApartUptoCardSaid : Prop := Claim7.holds Tryd.pinned (.plain (OpenSpec.upto listingApartSpec)) listingApartUptoCard

/-- THE SECOND FORM's CARD OF 'postbaglaw03.ListingBack'. -/
def listingBackUptoCard : Claim7 := { stood := { row := listingBackUptoRow, standIns := [], harness := (true, "03ef004af4273e5de6907ece06e1b81b2d52620c1e3ce7af33e9fa2cbf26e0f0"), looks := true }, kinds := [], alts := [], laidByText := true, laidKinds := [.data, .data, .data, .data, .sentinel, .sentinel, .pinned], laidTests := true, laidLooks := .later }
def ListingBackUptoCardSaid : Prop := Claim7.holds Tryd.pinned (.plain (OpenSpec.upto listingBackSpec)) listingBackUptoCard
end Rows
end Go.Proofs.YtihcljaphajdfaaDoor
