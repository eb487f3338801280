/-
  DERIVED. GIVEN WITH THE SEED: THE CARDS: each row of YtphjhbppjakocaaDoorRows.lean that lists a variable, with what it lists TIED to the program's text (the seventh form; the later family's looks); each row that meets fmt, with fmt's text TOLD by the authors' own Lean function (tested against real Go, not proved from fmt's source: count such statements apart). THE CARD IS WHAT COUNTS. Prove the row's statement (the work); the ties are given (YtphjhbppjakocaaDoorTie.lean); close each card by the builder's one call (the guide's Derived/Test/ToyasCard.lean, 'card_holds'). Laid BY PROGRAM, IN A SANDBOX (cutbox-door.mjs). By AI agents, Wed Nov 11 2026. No macro, syntax, notation, axiom, sorry.
-/
import Derived.Test.YtphjhbppjakocaaDoorRows
import GoSem.ClaimSeven
namespace Go.Proofs.YtphjhbppjakocaaDoor
namespace Rows

/-- THE TIED CARD OF 'idiomlaw07.TagCase'. -/
def tagCaseCard : Claim7 := { stood := { row := tagCaseRow, standIns := [], harness := (true, "78eddb9b9a4a143a1342b5e4e2c2954410dfba73ba501434c2807cdfef342970"), looks := false }, kinds := [], alts := [], laidByText := true, laidKinds := [.data, .pinned], laidTests := true, laidLooks := .later }
def TagCaseCardSaid : Prop := Claim7.holds Tryd.pinned (.plain (OpenSpec.ofChange tagCaseSpec)) tagCaseCard

/-- THE SECOND FORM's CARD OF 'idiomlaw07.TagCase'. -/
def tagCaseUptoCard : Claim7 := { stood := { row := tagCaseUptoRow, standIns := [], harness := (true, "78eddb9b9a4a143a1342b5e4e2c2954410dfba73ba501434c2807cdfef342970"), looks := false }, kinds := [], alts := [], laidByText := true, laidKinds := [.data, .pinned], laidTests := true, laidLooks := .later }
def TagCaseUptoCardSaid : Prop := Claim7.holds Tryd.pinned (.plain (OpenSpec.upto tagCaseSpec)) tagCaseUptoCard
end Rows
end Go.Proofs.YtphjhbppjakocaaDoor
