/-
  DERIVED. GIVEN WITH THE SEED: THE CARDS: each row of YtphjhbppjakocaaGreatDoorRows.lean that lists a variable, with what it lists TIED to the program's text (the seventh form; the later family's looks); each row that meets fmt, with fmt's text TOLD by the authors' own Lean function (tested against real Go, not proved from fmt's source: count such statements apart). THE CARD IS WHAT COUNTS. Prove the row's statement (the work); the ties are given (YtphjhbppjakocaaGreatDoorTie.lean); close each card by the builder's one call (the guide's Derived/Test/ToyasCard.lean, 'card_holds'). Laid BY PROGRAM, IN A SANDBOX (cutbox-door.mjs). By AI agents, Wed Nov 11 2026. No macro, syntax, notation, axiom, sorry.
-/
import Derived.Test.YtphjhbppjakocaaGreatDoorRows
import GoSem.ClaimSeven
namespace Go.Proofs.YtphjhbppjakocaaGreatDoor
namespace Rows

/-- THE TIED CARD OF 'idiomlaw07.TagUp'. -/
def tagUpCard : Claim7 := { stood := { row := tagUpRow, standIns := [], harness := (true, "23094fe36d927af104e391a82611424761b5394588e35b0f1ba4ef5ddc5c7d1a"), looks := false }, kinds := [], alts := [], laidByText := true, laidKinds := [.data, .pinned], laidTests := true, laidLooks := .later }
def TagUpCardSaid : Prop := Claim7.holds Tryz.pinned (.plain (OpenSpec.ofChange tagUpSpec)) tagUpCard

/-- THE TIED CARD OF 'idiomlaw07.TagOwn'. -/
def tagOwnCard : Claim7 := { stood := { row := tagOwnRow, standIns := [], harness := (true, "23094fe36d927af104e391a82611424761b5394588e35b0f1ba4ef5ddc5c7d1a"), looks := false }, kinds := [], alts := [], laidByText := true, laidKinds := [.data, .pinned], laidTests := true, laidLooks := .later }
def TagOwnCardSaid : Prop := Claim7.holds Tryz.pinned (.plain (OpenSpec.ofChange tagOwnSpec)) tagOwnCard

/-- THE TIED CARD OF 'idiomlaw07.TagParses'. -/
def tagParsesCard : Claim7 := { stood := { row := tagParsesRow, standIns := [], harness := (true, "23094fe36d927af104e391a82611424761b5394588e35b0f1ba4ef5ddc5c7d1a"), looks := false }, kinds := [], alts := [], laidByText := true, laidKinds := [.data, .pinned], laidTests := true, laidLooks := .later }
def TagParsesCardSaid : Prop := Claim7.holds Tryz.pinned (.plain (OpenSpec.ofChange tagParsesSpec)) tagParsesCard

/-- THE TIED CARD OF 'idiomlaw07.TagPrints'. -/
def tagPrintsCard : Claim7 := { stood := { row := tagPrintsRow, standIns := [], harness := (true, "23094fe36d927af104e391a82611424761b5394588e35b0f1ba4ef5ddc5c7d1a"), looks := false }, kinds := [], alts := [], laidByText := true, laidKinds := [.data, .pinned], laidTests := true, laidLooks := .later }
def TagPrintsCardSaid : Prop := Claim7.holds Tryz.pinned (.plain (OpenSpec.ofChange tagPrintsSpec)) tagPrintsCard

/-- THE TIED CARD OF 'idiomlaw07.TagBack'. -/
def tagBackCard : Claim7 := { stood := { row := tagBackRow, standIns := [], harness := (true, "23094fe36d927af104e391a82611424761b5394588e35b0f1ba4ef5ddc5c7d1a"), looks := false }, kinds := [], alts := [], laidByText := true, laidKinds := [.data, .pinned], laidTests := true, laidLooks := .later }
def TagBackCardSaid : Prop := Claim7.holds Tryz.pinned (.plain (OpenSpec.ofChange tagBackSpec)) tagBackCard

/-- THE TIED CARD OF 'idiomlaw07.TagWithin'. -/
def tagWithinCard : Claim7 := { stood := { row := tagWithinRow, standIns := [], harness := (true, "23094fe36d927af104e391a82611424761b5394588e35b0f1ba4ef5ddc5c7d1a"), looks := false }, kinds := [], alts := [], laidByText := true, laidKinds := [.data, .pinned], laidTests := true, laidLooks := .later }
def TagWithinCardSaid : Prop := Claim7.holds Tryz.pinned (.plain (OpenSpec.ofChange tagWithinSpec)) tagWithinCard

/-- THE TIED CARD OF 'idiomlaw07.TagChains'. -/
def tagChainsCard : Claim7 := { stood := { row := tagChainsRow, standIns := [], harness := (true, "23094fe36d927af104e391a82611424761b5394588e35b0f1ba4ef5ddc5c7d1a"), looks := false }, kinds := [], alts := [], laidByText := true, laidKinds := [.data, .pinned], laidTests := true, laidLooks := .later }
def TagChainsCardSaid : Prop := Claim7.holds Tryz.pinned (.plain (OpenSpec.ofChange tagChainsSpec)) tagChainsCard

/-- THE SECOND FORM's CARD OF 'idiomlaw07.TagUp'. -/
def tagUpUptoCard : Claim7 := { stood := { row := tagUpUptoRow, standIns := [], harness := (true, "23094fe36d927af104e391a82611424761b5394588e35b0f1ba4ef5ddc5c7d1a"), looks := false }, kinds := [], alts := [], laidByText := true, laidKinds := [.data, .pinned], laidTests := true, laidLooks := .later }
def TagUpUptoCardSaid : Prop := Claim7.holds Tryz.pinned (.plain (OpenSpec.upto tagUpSpec)) tagUpUptoCard

/-- THE SECOND FORM's CARD OF 'idiomlaw07.TagOwn'. -/
def tagOwnUptoCard : Claim7 := { stood := { row := tagOwnUptoRow, standIns := [], harness := (true, "23094fe36d927af104e391a82611424761b5394588e35b0f1ba4ef5ddc5c7d1a"), looks := false }, kinds := [], alts := [], laidByText := true, laidKinds := [.data, .pinned], laidTests := true, laidLooks := .later }
def TagOwnUptoCardSaid : Prop := Claim7.holds Tryz.pinned (.plain (OpenSpec.upto tagOwnSpec)) tagOwnUptoCard

/-- THE SECOND FORM's CARD OF 'idiomlaw07.TagParses'. -/
def tagParsesUptoCard : Claim7 := { stood := { row := tagParsesUptoRow, standIns := [], harness := (true, "23094fe36d927af104e391a82611424761b5394588e35b0f1ba4ef5ddc5c7d1a"), looks := false }, kinds := [], alts := [], laidByText := true, laidKinds := [.data, .pinned], laidTests := true, laidLooks := .later }
def TagParsesUptoCardSaid : Prop := Claim7.holds Tryz.pinned (.plain (OpenSpec.upto tagParsesSpec)) tagParsesUptoCard

/-- THE SECOND FORM's CARD OF 'idiomlaw07.TagPrints'. -/
def tagPrintsUptoCard : Claim7 := { stood := { row := tagPrintsUptoRow, standIns := [], harness := (true, "23094fe36d927af104e391a82611424761b5394588e35b0f1ba4ef5ddc5c7d1a"), looks := false }, kinds := [], alts := [], laidByText := true, laidKinds := [.data, .pinned], laidTests := true, laidLooks := .later }
def TagPrintsUptoCardSaid : Prop := Claim7.holds Tryz.pinned (.plain (OpenSpec.upto tagPrintsSpec)) tagPrintsUptoCard

/-- THE SECOND FORM's CARD OF 'idiomlaw07.TagBack'. -/
def tagBackUptoCard : Claim7 := { stood := { row := tagBackUptoRow, standIns := [], harness := (true, "23094fe36d927af104e391a82611424761b5394588e35b0f1ba4ef5ddc5c7d1a"), looks := false }, kinds := [], alts := [], laidByText := true, laidKinds := [.data, .pinned], laidTests := true, laidLooks := .later }
def TagBackUptoCardSaid : Prop := Claim7.holds Tryz.pinned (.plain (OpenSpec.upto tagBackSpec)) tagBackUptoCard

/-- THE SECOND FORM's CARD OF 'idiomlaw07.TagWithin'. -/
def tagWithinUptoCard : Claim7 := { stood := { row := tagWithinUptoRow, standIns := [], harness := (true, "23094fe36d927af104e391a82611424761b5394588e35b0f1ba4ef5ddc5c7d1a"), looks := false }, kinds := [], alts := [], laidByText := true, laidKinds := [.data, .pinned], laidTests := true, laidLooks := .later }
def TagWithinUptoCardSaid : Prop := Claim7.holds Tryz.pinned (.plain (OpenSpec.upto tagWithinSpec)) tagWithinUptoCard

/-- THE SECOND FORM's CARD OF 'idiomlaw07.TagChains'. -/
def tagChainsUptoCard : Claim7 := { stood := { row := tagChainsUptoRow, standIns := [], harness := (true, "23094fe36d927af104e391a82611424761b5394588e35b0f1ba4ef5ddc5c7d1a"), looks := false }, kinds := [], alts := [], laidByText := true, laidKinds := [.data, .pinned], laidTests := true, laidLooks := .later }
def TagChainsUptoCardSaid : Prop := Claim7.holds Tryz.pinned (.plain (OpenSpec.upto tagChainsSpec)) tagChainsUptoCard
end Rows
end Go.Proofs.YtphjhbppjakocaaGreatDoor
