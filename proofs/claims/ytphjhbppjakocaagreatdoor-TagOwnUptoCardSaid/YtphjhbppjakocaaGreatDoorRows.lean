/-
  NARROWER THAN 'FOR EVERY INPUT', by the rows' own cells (each row's printed sentence says how): TagUp: laid · TagOwn: laid · TagParses: laid · TagPrints: laid · TagBack: laid · TagWithin: laid · TagChains: laid.
  DERIVED. THE GIVEN ROWS OF THIS SEAT. 7 by the template 'for every input the law returns true; each argument reads behind the call as it read before'; 0 by the template 'total and deterministic' (their statements: YtphjhbppjakocaaGreatDoorTotals.lean).
  GIVEN WITH THE SEED: the statements are not yours to turn. If you find one false, say at which input.
  Laid BY PROGRAM, IN A SANDBOX (cutbox-rows.mjs): the forced cells as the released guide's own fill.sh prints them over the translation 70fc4e5a991bbc71… (all of the seat's roots in one cut). By AI agents, Wed Nov 11 2026. No macro, syntax, notation, axiom, sorry.
-/
import Derived.Test.YtphjhbppjakocaaGreatDoorChecked
import GoSem.PinnedTables
import GoSem.Claim
import GoSem.ClaimJoined
import GoSem.ClaimMapViews
import Derived.JoinedTies
import Derived.KernelRfl
namespace Go.Proofs.YtphjhbppjakocaaGreatDoor
/- THE CELL 'sum', in the pinned program and in every row, IS THE sha256 OF THE DUMP (.gsa) THAT YtphjhbppjakocaaGreatDoorProg.lean LOADS. Nothing in Lean hashes anything: it is a label: what it is worth is what the hold of that sum in a sandbox is worth. -/
noncomputable def Tryz.pinned : Pinned := { name := "ytphjhbppjakocaagreatdoor", sum := "70fc4e5a991bbc7109c833ca0c2c37fa2c2fc3974cb89fdee04ddfb0f72c90ee", checked := Tryz.checked }
namespace Rows
def none {H : Type} : Left H := { results := [], args := [] }

/- WHAT THE LISTED PACKAGE-LEVEL VARIABLES READ AS WHEN THE CALL BEGINS. Each datum BY PROGRAM (the guide's laid-datum.mjs) off the statement by which the dump's own 'gosem.cut.vars' lays the variable. In a bare row this is a premise. The card (YtphjhbppjakocaaGreatDoorCards.lean) ties it to the program's text. -/
def laid_unicode_utf8_acceptRanges {H : Type} : DataW H := .agg [.agg [.lit (.int .u8 128), .lit (.int .u8 191)], .agg [.lit (.int .u8 160), .lit (.int .u8 191)], .agg [.lit (.int .u8 128), .lit (.int .u8 159)], .agg [.lit (.int .u8 144), .lit (.int .u8 191)], .agg [.lit (.int .u8 128), .lit (.int .u8 143)], .agg [.lit (.int .u8 0), .lit (.int .u8 0)], .agg [.lit (.int .u8 0), .lit (.int .u8 0)], .agg [.lit (.int .u8 0), .lit (.int .u8 0)], .agg [.lit (.int .u8 0), .lit (.int .u8 0)], .agg [.lit (.int .u8 0), .lit (.int .u8 0)], .agg [.lit (.int .u8 0), .lit (.int .u8 0)], .agg [.lit (.int .u8 0), .lit (.int .u8 0)], .agg [.lit (.int .u8 0), .lit (.int .u8 0)], .agg [.lit (.int .u8 0), .lit (.int .u8 0)], .agg [.lit (.int .u8 0), .lit (.int .u8 0)], .agg [.lit (.int .u8 0), .lit (.int .u8 0)]]
/-- One of Go's own tables, pinned by name: the form's constant. -/
def laid_unicode_utf8_first : DataW Unit := Go.Pinned.utf8First

/-- 'idiomlaw07.TagUp': WHATEVER THE INPUT: true; the input reads as it did. -/
def tagUpSpec : ChangeSpec := { name := "tagUp", fn := fun _ => fun
  | [d] => { results := [.lit (.bool true)], args := [d] }
  | _ => none }
def tagUpRow : OpenClaim := { program := "ytphjhbppjakocaagreatdoor", sum := "70fc4e5a991bbc7109c833ca0c2c37fa2c2fc3974cb89fdee04ddfb0f72c90ee", func := "idiom/idiomlaw07.TagUp", spec := "tagUp", inPlace := ["internal/bytealg.CountString", "internal/bytealg.IndexByteString", "internal/bytealg.IndexString", "internal/abi.NoEscape", "internal/bytealg.MakeNoZero", "internal/bytealg.abigen_runtime_cmpstring"], unfollowed := true, recurses := true, named := ["unicode/utf8.first", "unicode/utf8.acceptRanges", "internal/bytealg.MaxLen"], apart := false, laid := [("unicode/utf8.acceptRanges", laid_unicode_utf8_acceptRanges), ("unicode/utf8.first", laid_unicode_utf8_first)] }
def TagUpSaid : Prop := tagUpRow.holds Tryz.pinned (OpenSpec.ofChange tagUpSpec)

/-- ITS FALSE NEIGHBOUR: 'it returns false'. Refute it at one input. -/
def tagUpWrong : ChangeSpec := { name := "tagUp", fn := fun _ => fun
  | [d] => { results := [.lit (.bool false)], args := [d] }
  | _ => none }
def TagUpWrongFalsely : Prop := tagUpRow.holds Tryz.pinned (OpenSpec.ofChange tagUpWrong)

/-- 'idiomlaw07.TagOwn': WHATEVER THE INPUT: true; the input reads as it did. -/
def tagOwnSpec : ChangeSpec := { name := "tagOwn", fn := fun _ => fun
  | [d1, d2] => { results := [.lit (.bool true)], args := [d1, d2] }
  | _ => none }
def tagOwnRow : OpenClaim := { program := "ytphjhbppjakocaagreatdoor", sum := "70fc4e5a991bbc7109c833ca0c2c37fa2c2fc3974cb89fdee04ddfb0f72c90ee", func := "idiom/idiomlaw07.TagOwn", spec := "tagOwn", inPlace := ["internal/bytealg.CountString", "internal/bytealg.IndexByteString", "internal/bytealg.IndexString", "internal/abi.NoEscape", "internal/bytealg.MakeNoZero", "internal/bytealg.abigen_runtime_cmpstring"], unfollowed := true, recurses := true, named := ["unicode/utf8.first", "unicode/utf8.acceptRanges", "internal/bytealg.MaxLen"], apart := false, laid := [("unicode/utf8.acceptRanges", laid_unicode_utf8_acceptRanges), ("unicode/utf8.first", laid_unicode_utf8_first)] }
def TagOwnSaid : Prop := tagOwnRow.holds Tryz.pinned (OpenSpec.ofChange tagOwnSpec)

/-- ITS FALSE NEIGHBOUR: 'it returns false'. Refute it at one input. -/
def tagOwnWrong : ChangeSpec := { name := "tagOwn", fn := fun _ => fun
  | [d1, d2] => { results := [.lit (.bool false)], args := [d1, d2] }
  | _ => none }
def TagOwnWrongFalsely : Prop := tagOwnRow.holds Tryz.pinned (OpenSpec.ofChange tagOwnWrong)

/-- 'idiomlaw07.TagParses': WHATEVER THE INPUT: true; the input reads as it did. -/
def tagParsesSpec : ChangeSpec := { name := "tagParses", fn := fun _ => fun
  | [d] => { results := [.lit (.bool true)], args := [d] }
  | _ => none }
def tagParsesRow : OpenClaim := { program := "ytphjhbppjakocaagreatdoor", sum := "70fc4e5a991bbc7109c833ca0c2c37fa2c2fc3974cb89fdee04ddfb0f72c90ee", func := "idiom/idiomlaw07.TagParses", spec := "tagParses", inPlace := ["internal/abi.NoEscape", "internal/bytealg.MakeNoZero", "internal/bytealg.abigen_runtime_cmpstring", "internal/bytealg.CountString", "internal/bytealg.IndexByteString", "internal/bytealg.IndexString"], unfollowed := true, recurses := true, named := ["unicode/utf8.first", "unicode/utf8.acceptRanges", "internal/bytealg.MaxLen"], apart := false, laid := [("unicode/utf8.acceptRanges", laid_unicode_utf8_acceptRanges), ("unicode/utf8.first", laid_unicode_utf8_first)] }
def TagParsesSaid : Prop := tagParsesRow.holds Tryz.pinned (OpenSpec.ofChange tagParsesSpec)

/-- ITS FALSE NEIGHBOUR: 'it returns false'. Refute it at one input. -/
def tagParsesWrong : ChangeSpec := { name := "tagParses", fn := fun _ => fun
  | [d] => { results := [.lit (.bool false)], args := [d] }
  | _ => none }
def TagParsesWrongFalsely : Prop := tagParsesRow.holds Tryz.pinned (OpenSpec.ofChange tagParsesWrong)

/-- 'idiomlaw07.TagPrints': WHATEVER THE INPUT: true; the input reads as it did. -/
def tagPrintsSpec : ChangeSpec := { name := "tagPrints", fn := fun _ => fun
  | [d] => { results := [.lit (.bool true)], args := [d] }
  | _ => none }
def tagPrintsRow : OpenClaim := { program := "ytphjhbppjakocaagreatdoor", sum := "70fc4e5a991bbc7109c833ca0c2c37fa2c2fc3974cb89fdee04ddfb0f72c90ee", func := "idiom/idiomlaw07.TagPrints", spec := "tagPrints", inPlace := ["internal/bytealg.CountString", "internal/bytealg.IndexByteString", "internal/bytealg.IndexString", "internal/abi.NoEscape", "internal/bytealg.MakeNoZero", "internal/bytealg.abigen_runtime_cmpstring"], unfollowed := true, recurses := true, named := ["unicode/utf8.first", "unicode/utf8.acceptRanges", "internal/bytealg.MaxLen"], apart := false, laid := [("unicode/utf8.acceptRanges", laid_unicode_utf8_acceptRanges), ("unicode/utf8.first", laid_unicode_utf8_first)] }
def TagPrintsSaid : Prop := tagPrintsRow.holds Tryz.pinned (OpenSpec.ofChange tagPrintsSpec)

/-- ITS FALSE NEIGHBOUR: 'it returns false'. Refute it at one input. -/
def tagPrintsWrong : ChangeSpec := { name := "tagPrints", fn := fun _ => fun
  | [d] => { results := [.lit (.bool false)], args := [d] }
  | _ => none }
def TagPrintsWrongFalsely : Prop := tagPrintsRow.holds Tryz.pinned (OpenSpec.ofChange tagPrintsWrong)

/-- 'idiomlaw07.TagBack': WHATEVER THE INPUT: true; the input reads as it did. -/
def tagBackSpec : ChangeSpec := { name := "tagBack", fn := fun _ => fun
  | [d] => { results := [.lit (.bool true)], args := [d] }
  | _ => none }
def tagBackRow : OpenClaim := { program := "ytphjhbppjakocaagreatdoor", sum := "70fc4e5a991bbc7109c833ca0c2c37fa2c2fc3974cb89fdee04ddfb0f72c90ee", func := "idiom/idiomlaw07.TagBack", spec := "tagBack", inPlace := ["internal/bytealg.CountString", "internal/bytealg.IndexByteString", "internal/bytealg.IndexString", "internal/abi.NoEscape", "internal/bytealg.MakeNoZero", "internal/bytealg.abigen_runtime_cmpstring"], unfollowed := true, recurses := true, named := ["unicode/utf8.first", "unicode/utf8.acceptRanges", "internal/bytealg.MaxLen"], apart := false, laid := [("unicode/utf8.acceptRanges", laid_unicode_utf8_acceptRanges), ("unicode/utf8.first", laid_unicode_utf8_first)] }
def TagBackSaid : Prop := tagBackRow.holds Tryz.pinned (OpenSpec.ofChange tagBackSpec)

/-- ITS FALSE NEIGHBOUR: 'it returns false'. Refute it at one input. -/
def tagBackWrong : ChangeSpec := { name := "tagBack", fn := fun _ => fun
  | [d] => { results := [.lit (.bool false)], args := [d] }
  | _ => none }
def TagBackWrongFalsely : Prop := tagBackRow.holds Tryz.pinned (OpenSpec.ofChange tagBackWrong)

/-- 'idiomlaw07.TagWithin': WHATEVER THE INPUT: true; the input reads as it did. -/
def tagWithinSpec : ChangeSpec := { name := "tagWithin", fn := fun _ => fun
  | [d1, d2] => { results := [.lit (.bool true)], args := [d1, d2] }
  | _ => none }
def tagWithinRow : OpenClaim := { program := "ytphjhbppjakocaagreatdoor", sum := "70fc4e5a991bbc7109c833ca0c2c37fa2c2fc3974cb89fdee04ddfb0f72c90ee", func := "idiom/idiomlaw07.TagWithin", spec := "tagWithin", inPlace := ["internal/bytealg.CountString", "internal/bytealg.IndexByteString", "internal/bytealg.IndexString", "internal/abi.NoEscape", "internal/bytealg.MakeNoZero", "internal/bytealg.abigen_runtime_cmpstring"], unfollowed := true, recurses := true, named := ["unicode/utf8.first", "unicode/utf8.acceptRanges", "internal/bytealg.MaxLen"], apart := false, laid := [("unicode/utf8.acceptRanges", laid_unicode_utf8_acceptRanges), ("unicode/utf8.first", laid_unicode_utf8_first)] }
def TagWithinSaid : Prop := tagWithinRow.holds Tryz.pinned (OpenSpec.ofChange tagWithinSpec)

/-- ITS FALSE NEIGHBOUR: 'it returns false'. Refute it at one input. -/
def tagWithinWrong : ChangeSpec := { name := "tagWithin", fn := fun _ => fun
  | [d1, d2] => { results := [.lit (.bool false)], args := [d1, d2] }
  | _ => none }
def TagWithinWrongFalsely : Prop := tagWithinRow.holds Tryz.pinned (OpenSpec.ofChange tagWithinWrong)

/-- 'idiomlaw07.TagChains': WHATEVER THE INPUT: true; the input reads as it did. -/
def tagChainsSpec : ChangeSpec := { name := "tagChains", fn := fun _ => fun
  | [d1, d2] => { results := [.lit (.bool true)], args := [d1, d2] }
  | _ => none }
def tagChainsRow : OpenClaim := { program := "ytphjhbppjakocaagreatdoor", sum := "70fc4e5a991bbc7109c833ca0c2c37fa2c2fc3974cb89fdee04ddfb0f72c90ee", func := "idiom/idiomlaw07.TagChains", spec := "tagChains", inPlace := ["internal/bytealg.CountString", "internal/bytealg.IndexByteString", "internal/bytealg.IndexString", "internal/abi.NoEscape", "internal/bytealg.MakeNoZero", "internal/bytealg.abigen_runtime_cmpstring"], unfollowed := true, recurses := true, named := ["unicode/utf8.first", "unicode/utf8.acceptRanges", "internal/bytealg.MaxLen"], apart := false, laid := [("unicode/utf8.acceptRanges", laid_unicode_utf8_acceptRanges), ("unicode/utf8.first", laid_unicode_utf8_first)] }
def TagChainsSaid : Prop := tagChainsRow.holds Tryz.pinned (OpenSpec.ofChange tagChainsSpec)

/-- ITS FALSE NEIGHBOUR: 'it returns false'. Refute it at one input. -/
def tagChainsWrong : ChangeSpec := { name := "tagChains", fn := fun _ => fun
  | [d1, d2] => { results := [.lit (.bool false)], args := [d1, d2] }
  | _ => none }
def TagChainsWrongFalsely : Prop := tagChainsRow.holds Tryz.pinned (OpenSpec.ofChange tagChainsWrong)

/- THE SECOND FORM. 'bulk': how many values and letters a reading holds, each counted each time it is reached (what is shared counts as often as it is met; a slice's spare places count too). A statement '..UptoSaid' is the law's where the arguments, and the package variables that the reading takes, are together of bulk at most 1048576: NARROWER than '..Said'. Prove '..Said' where nothing that the law and all that it calls make is longer than what came in: it says more and counts as full. Else prove '..UptoSaid'. A law counts once. -/
mutual
def uptoBulk {H : Type} : DataW H → Nat
  | .lit (.string bytes) => bytes.length + 1
  | .lit _ => 1
  | .nil => 1
  | .ptr d => uptoBulk d + 1
  | .slice elems spare => uptoBulkAll elems + uptoBulkAll spare + 1
  | .agg parts => uptoBulkAll parts + 1
  | .iface _ d => uptoBulk d + 1
  | .map entries => uptoBulkEntries entries + 1
  | .held _ => 1
def uptoBulkAll {H : Type} : List (DataW H) → Nat
  | [] => 0
  | d :: r => uptoBulk d + uptoBulkAll r
def uptoBulkEntries {H : Type} : List (Lit × DataW H) → Nat
  | [] => 0
  | x :: r => uptoBulkEntry x + uptoBulkEntries r
def uptoBulkEntry {H : Type} : Lit × DataW H → Nat
  | (.string bytes, d) => bytes.length + uptoBulk d + 1
  | (_, d) => uptoBulk d + 1
 end
def uptoSmall : (H : Type) → List (DataW H) → Bool := fun _ ds => decide (uptoBulkAll ds ≤ 1048576)
def OpenSpec.upto (s : _root_.Go.ChangeSpec) : _root_.Go.OpenSpec := { _root_.Go.OpenSpec.ofChange s with cond := some uptoSmall }

/-- 'idiomlaw07.TagUp', WHERE WHAT IT READS IS OF BULK AT MOST 1048576: true; the input reads as it did. -/
def tagUpUptoRow : OpenClaim := { program := "ytphjhbppjakocaagreatdoor", sum := "70fc4e5a991bbc7109c833ca0c2c37fa2c2fc3974cb89fdee04ddfb0f72c90ee", func := "idiom/idiomlaw07.TagUp", spec := "tagUp", inPlace := ["internal/bytealg.CountString", "internal/bytealg.IndexByteString", "internal/bytealg.IndexString", "internal/abi.NoEscape", "internal/bytealg.MakeNoZero", "internal/bytealg.abigen_runtime_cmpstring"], unfollowed := true, recurses := true, named := ["unicode/utf8.first", "unicode/utf8.acceptRanges", "internal/bytealg.MaxLen"], apart := false, laid := [("unicode/utf8.acceptRanges", laid_unicode_utf8_acceptRanges), ("unicode/utf8.first", laid_unicode_utf8_first)], narrowed := true }
def TagUpUptoSaid : Prop := tagUpUptoRow.holds Tryz.pinned (OpenSpec.upto tagUpSpec)

/-- 'idiomlaw07.TagOwn', WHERE WHAT IT READS IS OF BULK AT MOST 1048576: true; the input reads as it did. -/
def tagOwnUptoRow : OpenClaim := { program := "ytphjhbppjakocaagreatdoor", sum := "70fc4e5a991bbc7109c833ca0c2c37fa2c2fc3974cb89fdee04ddfb0f72c90ee", func := "idiom/idiomlaw07.TagOwn", spec := "tagOwn", inPlace := ["internal/bytealg.CountString", "internal/bytealg.IndexByteString", "internal/bytealg.IndexString", "internal/abi.NoEscape", "internal/bytealg.MakeNoZero", "internal/bytealg.abigen_runtime_cmpstring"], unfollowed := true, recurses := true, named := ["unicode/utf8.first", "unicode/utf8.acceptRanges", "internal/bytealg.MaxLen"], apart := false, laid := [("unicode/utf8.acceptRanges", laid_unicode_utf8_acceptRanges), ("unicode/utf8.first", laid_unicode_utf8_first)], narrowed := true }
def TagOwnUptoSaid : Prop := tagOwnUptoRow.holds Tryz.pinned (OpenSpec.upto tagOwnSpec)

/-- 'idiomlaw07.TagParses', WHERE WHAT IT READS IS OF BULK AT MOST 1048576: true; the input reads as it did. -/
def tagParsesUptoRow : OpenClaim := { program := "ytphjhbppjakocaagreatdoor", sum := "70fc4e5a991bbc7109c833ca0c2c37fa2c2fc3974cb89fdee04ddfb0f72c90ee", func := "idiom/idiomlaw07.TagParses", spec := "tagParses", inPlace := ["internal/abi.NoEscape", "internal/bytealg.MakeNoZero", "internal/bytealg.abigen_runtime_cmpstring", "internal/bytealg.CountString", "internal/bytealg.IndexByteString", "internal/bytealg.IndexString"], unfollowed := true, recurses := true, named := ["unicode/utf8.first", "unicode/utf8.acceptRanges", "internal/bytealg.MaxLen"], apart := false, laid := [("unicode/utf8.acceptRanges", laid_unicode_utf8_acceptRanges), ("unicode/utf8.first", laid_unicode_utf8_first)], narrowed := true }
def TagParsesUptoSaid : Prop := tagParsesUptoRow.holds Tryz.pinned (OpenSpec.upto tagParsesSpec)

/-- 'idiomlaw07.TagPrints', WHERE WHAT IT READS IS OF BULK AT MOST 1048576: true; the input reads as it did. -/
def tagPrintsUptoRow : OpenClaim := { program := "ytphjhbppjakocaagreatdoor", sum := "70fc4e5a991bbc7109c833ca0c2c37fa2c2fc3974cb89fdee04ddfb0f72c90ee", func := "idiom/idiomlaw07.TagPrints", spec := "tagPrints", inPlace := ["internal/bytealg.CountString", "internal/bytealg.IndexByteString", "internal/bytealg.IndexString", "internal/abi.NoEscape", "internal/bytealg.MakeNoZero", "internal/bytealg.abigen_runtime_cmpstring"], unfollowed := true, recurses := true, named := ["unicode/utf8.first", "unicode/utf8.acceptRanges", "internal/bytealg.MaxLen"], apart := false, laid := [("unicode/utf8.acceptRanges", laid_unicode_utf8_acceptRanges), ("unicode/utf8.first", laid_unicode_utf8_first)], narrowed := true }
def TagPrintsUptoSaid : Prop := tagPrintsUptoRow.holds Tryz.pinned (OpenSpec.upto tagPrintsSpec)

/-- 'idiomlaw07.TagBack', WHERE WHAT IT READS IS OF BULK AT MOST 1048576: true; the input reads as it did. -/
def tagBackUptoRow : OpenClaim := { program := "ytphjhbppjakocaagreatdoor", sum := "70fc4e5a991bbc7109c833ca0c2c37fa2c2fc3974cb89fdee04ddfb0f72c90ee", func := "idiom/idiomlaw07.TagBack", spec := "tagBack", inPlace := ["internal/bytealg.CountString", "internal/bytealg.IndexByteString", "internal/bytealg.IndexString", "internal/abi.NoEscape", "internal/bytealg.MakeNoZero", "internal/bytealg.abigen_runtime_cmpstring"], unfollowed := true, recurses := true, named := ["unicode/utf8.first", "unicode/utf8.acceptRanges", "internal/bytealg.MaxLen"], apart := false, laid := [("unicode/utf8.acceptRanges", laid_unicode_utf8_acceptRanges), ("unicode/utf8.first", laid_unicode_utf8_first)], narrowed := true }
def TagBackUptoSaid : Prop := tagBackUptoRow.holds Tryz.pinned (OpenSpec.upto tagBackSpec)

/-- 'idiomlaw07.TagWithin', WHERE WHAT IT READS IS OF BULK AT MOST 1048576: true; the input reads as it did. -/
def tagWithinUptoRow : OpenClaim := { program := "ytphjhbppjakocaagreatdoor", sum := "70fc4e5a991bbc7109c833ca0c2c37fa2c2fc3974cb89fdee04ddfb0f72c90ee", func := "idiom/idiomlaw07.TagWithin", spec := "tagWithin", inPlace := ["internal/bytealg.CountString", "internal/bytealg.IndexByteString", "internal/bytealg.IndexString", "internal/abi.NoEscape", "internal/bytealg.MakeNoZero", "internal/bytealg.abigen_runtime_cmpstring"], unfollowed := true, recurses := true, named := ["unicode/utf8.first", "unicode/utf8.acceptRanges", "internal/bytealg.MaxLen"], apart := false, laid := [("unicode/utf8.acceptRanges", laid_unicode_utf8_acceptRanges), ("unicode/utf8.first", laid_unicode_utf8_first)], narrowed := true }
def TagWithinUptoSaid : Prop := tagWithinUptoRow.holds Tryz.pinned (OpenSpec.upto tagWithinSpec)

/-- 'idiomlaw07.TagChains', WHERE WHAT IT READS IS OF BULK AT MOST 1048576: true; the input reads as it did. -/
def tagChainsUptoRow : OpenClaim := { program := "ytphjhbppjakocaagreatdoor", sum := "70fc4e5a991bbc7109c833ca0c2c37fa2c2fc3974cb89fdee04ddfb0f72c90ee", func := "idiom/idiomlaw07.TagChains", spec := "tagChains", inPlace := ["internal/bytealg.CountString", "internal/bytealg.IndexByteString", "internal/bytealg.IndexString", "internal/abi.NoEscape", "internal/bytealg.MakeNoZero", "internal/bytealg.abigen_runtime_cmpstring"], unfollowed := true, recurses := true, named := ["unicode/utf8.first", "unicode/utf8.acceptRanges", "internal/bytealg.MaxLen"], apart := false, laid := [("unicode/utf8.acceptRanges", laid_unicode_utf8_acceptRanges), ("unicode/utf8.first", laid_unicode_utf8_first)], narrowed := true }
def TagChainsUptoSaid : Prop := tagChainsUptoRow.holds Tryz.pinned (OpenSpec.upto tagChainsSpec)

end Rows
end Go.Proofs.YtphjhbppjakocaaGreatDoor
