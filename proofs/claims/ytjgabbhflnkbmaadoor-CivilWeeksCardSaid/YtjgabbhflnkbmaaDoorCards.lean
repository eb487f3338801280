/-
  DERIVED. GIVEN WITH THE SEED: THE CARDS: each row of YtjgabbhflnkbmaaDoorRows.lean that lists a variable, with what it lists TIED to the program's text (the seventh form; the later family's looks); each row that meets fmt, with fmt's text TOLD by the authors' own Lean function (tested against real Go, not proved from fmt's source: count such statements apart). THE CARD IS WHAT COUNTS. Prove the row's statement (the work); the ties are given (YtjgabbhflnkbmaaDoorTie.lean); close each card by the builder's one call (the guide's Derived/Test/ToyasCard.lean, 'card_holds'). Laid BY PROGRAM, IN A SANDBOX (cutbox-door.mjs). By AI agents, Wed Nov 11 2026. No macro, syntax, notation, axiom, sorry.
-/
import Derived.Test.YtjgabbhflnkbmaaDoorRows
import GoSem.ClaimSeven
namespace Go.Proofs.YtjgabbhflnkbmaaDoor
namespace Rows

/-- THE TIED CARD OF 'idiomlaw15.CivilDays'. -/
def civilDaysCard : Claim7 := { stood := { row := civilDaysRow, standIns := [], harness := (true, "ec1e211b6c89d37e4a1220e5c532db3824f458aec86e62722f451343aa39d064"), looks := false }, kinds := [], alts := [], laidByText := true, laidKinds := [.data], laidTests := true, laidLooks := .later }
def CivilDaysCardSaid : Prop := Claim7.holds Tryd.pinned (.plain (OpenSpec.ofChange civilDaysSpec)) civilDaysCard

/-- THE TIED CARD OF 'idiomlaw15.CivilJoins'. -/
def civilJoinsCard : Claim7 := { stood := { row := civilJoinsRow, standIns := [], harness := (true, "ec1e211b6c89d37e4a1220e5c532db3824f458aec86e62722f451343aa39d064"), looks := false }, kinds := [], alts := [], laidByText := true, laidKinds := [.data], laidTests := true, laidLooks := .later }
def CivilJoinsCardSaid : Prop := Claim7.holds Tryd.pinned (.plain (OpenSpec.ofChange civilJoinsSpec)) civilJoinsCard

/-- THE TIED CARD OF 'idiomlaw15.CivilOf'. -/
def civilOfCard : Claim7 := { stood := { row := civilOfRow, standIns := [], harness := (true, "ec1e211b6c89d37e4a1220e5c532db3824f458aec86e62722f451343aa39d064"), looks := false }, kinds := [], alts := [], laidByText := true, laidKinds := [.data], laidTests := true, laidLooks := .later }
def CivilOfCardSaid : Prop := Claim7.holds Tryd.pinned (.plain (OpenSpec.ofChange civilOfSpec)) civilOfCard

/-- THE TIED CARD OF 'idiomlaw15.CivilMonths'. -/
def civilMonthsCard : Claim7 := { stood := { row := civilMonthsRow, standIns := [], harness := (true, "ec1e211b6c89d37e4a1220e5c532db3824f458aec86e62722f451343aa39d064"), looks := false }, kinds := [], alts := [], laidByText := true, laidKinds := [.data], laidTests := true, laidLooks := .later }
def CivilMonthsCardSaid : Prop := Claim7.holds Tryd.pinned (.plain (OpenSpec.ofChange civilMonthsSpec)) civilMonthsCard

/-- THE TIED CARD OF 'idiomlaw15.CivilBack'. -/
def civilBackCard : Claim7 := { stood := { row := civilBackRow, standIns := [], harness := (true, "ec1e211b6c89d37e4a1220e5c532db3824f458aec86e62722f451343aa39d064"), looks := false }, kinds := [], alts := [], laidByText := true, laidKinds := [.data], laidTests := true, laidLooks := .later }
def CivilBackCardSaid : Prop := Claim7.holds Tryd.pinned (.plain (OpenSpec.ofChange civilBackSpec)) civilBackCard

/-- THE TIED CARD OF 'idiomlaw15.CivilWeeks'. -/
def civilWeeksCard : Claim7 := { stood := { row := civilWeeksRow, standIns := [], harness := (true, "ec1e211b6c89d37e4a1220e5c532db3824f458aec86e62722f451343aa39d064"), looks := false }, kinds := [], alts := [], laidByText := true, laidKinds := [.data], laidTests := true, laidLooks := .later }
def CivilWeeksCardSaid : Prop := Claim7.holds Tryd.pinned (.plain (OpenSpec.ofChange civilWeeksSpec)) civilWeeksCard

/-- THE TIED CARD OF 'idiomlaw15.CivilNext'. -/
def civilNextCard : Claim7 := { stood := { row := civilNextRow, standIns := [], harness := (true, "ec1e211b6c89d37e4a1220e5c532db3824f458aec86e62722f451343aa39d064"), looks := false }, kinds := [], alts := [], laidByText := true, laidKinds := [.data], laidTests := true, laidLooks := .later }
def CivilNextCardSaid : Prop := Claim7.holds Tryd.pinned (.plain (OpenSpec.ofChange civilNextSpec)) civilNextCard

/-- THE TIED CARD OF 'idiomlaw15.CivilSplits'. -/
def civilSplitsCard : Claim7 := { stood := { row := civilSplitsRow, standIns := [], harness := (true, "ec1e211b6c89d37e4a1220e5c532db3824f458aec86e62722f451343aa39d064"), looks := false }, kinds := [], alts := [], laidByText := true, laidKinds := [.data], laidTests := true, laidLooks := .later }
def CivilSplitsCardSaid : Prop := Claim7.holds Tryd.pinned (.plain (OpenSpec.ofChange civilSplitsSpec)) civilSplitsCard

/-- THE TIED CARD OF 'idiomlaw15.CivilSevens'. -/
def civilSevensCard : Claim7 := { stood := { row := civilSevensRow, standIns := [], harness := (true, "ec1e211b6c89d37e4a1220e5c532db3824f458aec86e62722f451343aa39d064"), looks := false }, kinds := [], alts := [], laidByText := true, laidKinds := [.data], laidTests := true, laidLooks := .later }
def CivilSevensCardSaid : Prop := Claim7.holds Tryd.pinned (.plain (OpenSpec.ofChange civilSevensSpec)) civilSevensCard

/-- THE TIED CARD OF 'idiomlaw15.CivilMoments'. -/
def civilMomentsCard : Claim7 := { stood := { row := civilMomentsRow, standIns := [], harness := (true, "ec1e211b6c89d37e4a1220e5c532db3824f458aec86e62722f451343aa39d064"), looks := false }, kinds := [], alts := [], laidByText := true, laidKinds := [.data], laidTests := true, laidLooks := .later }
def CivilMomentsCardSaid : Prop := Claim7.holds Tryd.pinned (.plain (OpenSpec.ofChange civilMomentsSpec)) civilMomentsCard

/-- THE SECOND FORM's CARD OF 'idiomlaw15.CivilDays'. -/
def civilDaysUptoCard : Claim7 := { stood := { row := civilDaysUptoRow, standIns := [], harness := (true, "ec1e211b6c89d37e4a1220e5c532db3824f458aec86e62722f451343aa39d064"), looks := false }, kinds := [], alts := [], laidByText := true, laidKinds := [.data], laidTests := true, laidLooks := .later }
def CivilDaysUptoCardSaid : Prop := Claim7.holds Tryd.pinned (.plain (OpenSpec.upto civilDaysSpec)) civilDaysUptoCard

/-- THE SECOND FORM's CARD OF 'idiomlaw15.CivilJoins'. -/
def civilJoinsUptoCard : Claim7 := { stood := { row := civilJoinsUptoRow, standIns := [], harness := (true, "ec1e211b6c89d37e4a1220e5c532db3824f458aec86e62722f451343aa39d064"), looks := false }, kinds := [], alts := [], laidByText := true, laidKinds := [.data], laidTests := true, laidLooks := .later }
def CivilJoinsUptoCardSaid : Prop := Claim7.holds Tryd.pinned (.plain (OpenSpec.upto civilJoinsSpec)) civilJoinsUptoCard

/-- THE SECOND FORM's CARD OF 'idiomlaw15.CivilOf'. -/
def civilOfUptoCard : Claim7 := { stood := { row := civilOfUptoRow, standIns := [], harness := (true, "ec1e211b6c89d37e4a1220e5c532db3824f458aec86e62722f451343aa39d064"), looks := false }, kinds := [], alts := [], laidByText := true, laidKinds := [.data], laidTests := true, laidLooks := .later }
def CivilOfUptoCardSaid : Prop := Claim7.holds Tryd.pinned (.plain (OpenSpec.upto civilOfSpec)) civilOfUptoCard

/-- THE SECOND FORM's CARD OF 'idiomlaw15.CivilMonths'. -/
def civilMonthsUptoCard : Claim7 := { stood := { row := civilMonthsUptoRow, standIns := [], harness := (true, "ec1e211b6c89d37e4a1220e5c532db3824f458aec86e62722f451343aa39d064"), looks := false }, kinds := [], alts := [], laidByText := true, laidKinds := [.data], laidTests := true, laidLooks := .later }
def CivilMonthsUptoCardSaid : Prop := Claim7.holds Tryd.pinned (.plain (OpenSpec.upto civilMonthsSpec)) civilMonthsUptoCard

/-- THE SECOND FORM's CARD OF 'idiomlaw15.CivilBack'. -/
def civilBackUptoCard : Claim7 := { stood := { row := civilBackUptoRow, standIns := [], harness := (true, "ec1e211b6c89d37e4a1220e5c532db3824f458aec86e62722f451343aa39d064"), looks := false }, kinds := [], alts := [], laidByText := true, laidKinds := [.data], laidTests := true, laidLooks := .later }
def CivilBackUptoCardSaid : Prop := Claim7.holds Tryd.pinned (.plain (OpenSpec.upto civilBackSpec)) civilBackUptoCard

/-- THE SECOND FORM's CARD OF 'idiomlaw15.CivilWeeks'. -/
def civilWeeksUptoCard : Claim7 := { stood := { row := civilWeeksUptoRow, standIns := [], harness := (true, "ec1e211b6c89d37e4a1220e5c532db3824f458aec86e62722f451343aa39d064"), looks := false }, kinds := [], alts := [], laidByText := true, laidKinds := [.data], laidTests := true, laidLooks := .later }
def CivilWeeksUptoCardSaid : Prop := Claim7.holds Tryd.pinned (.plain (OpenSpec.upto civilWeeksSpec)) civilWeeksUptoCard

/-- THE SECOND FORM's CARD OF 'idiomlaw15.CivilNext'. -/
def civilNextUptoCard : Claim7 := { stood := { row := civilNextUptoRow, standIns := [], harness := (true, "ec1e211b6c89d37e4a1220e5c532db3824f458aec86e62722f451343aa39d064"), looks := false }, kinds := [], alts := [], laidByText := true, laidKinds := [.data], laidTests := true, laidLooks := .later }
def CivilNextUptoCardSaid : Prop := Claim7.holds Tryd.pinned (.plain (OpenSpec.upto civilNextSpec)) civilNextUptoCard

/-- THE SECOND FORM's CARD OF 'idiomlaw15.CivilSplits'. -/
def civilSplitsUptoCard : Claim7 := { stood := { row := civilSplitsUptoRow, standIns := [], harness := (true, "ec1e211b6c89d37e4a1220e5c532db3824f458aec86e62722f451343aa39d064"), looks := false }, kinds := [], alts := [], laidByText := true, laidKinds := [.data], laidTests := true, laidLooks := .later }
def CivilSplitsUptoCardSaid : Prop := Claim7.holds Tryd.pinned (.plain (OpenSpec.upto civilSplitsSpec)) civilSplitsUptoCard

/-- THE SECOND FORM's CARD OF 'idiomlaw15.CivilSevens'. -/
def civilSevensUptoCard : Claim7 := { stood := { row := civilSevensUptoRow, standIns := [], harness := (true, "ec1e211b6c89d37e4a1220e5c532db3824f458aec86e62722f451343aa39d064"), looks := false }, kinds := [], alts := [], laidByText := true, laidKinds := [.data], laidTests := true, laidLooks := .later }
def CivilSevensUptoCardSaid : Prop := Claim7.holds Tryd.pinned (.plain (OpenSpec.upto civilSevensSpec)) civilSevensUptoCard

/-- THE SECOND FORM's CARD OF 'idiomlaw15.CivilMoments'. -/
def civilMomentsUptoCard : Claim7 := { stood := { row := civilMomentsUptoRow, standIns := [], harness := (true, "ec1e211b6c89d37e4a1220e5c532db3824f458aec86e62722f451343aa39d064"), looks := false }, kinds := [], alts := [], laidByText := true, laidKinds := [.data], laidTests := true, laidLooks := .later }
def CivilMomentsUptoCardSaid : Prop := Claim7.holds Tryd.pinned (.plain (OpenSpec.upto civilMomentsSpec)) civilMomentsUptoCard
end Rows
end Go.Proofs.YtjgabbhflnkbmaaDoor
