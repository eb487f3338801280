/-
  NARROWER THAN 'FOR EVERY INPUT', by the rows' own cells (each row's printed sentence says how): CivilDays: laid · CivilJoins: laid · CivilOf: laid · CivilMonths: laid · CivilBack: laid · CivilWeeks: laid · CivilNext: laid · CivilSplits: laid · CivilSevens: laid · CivilMoments: laid.
  DERIVED. THE GIVEN ROWS OF THIS SEAT. 10 by the template 'for every input the law returns true; each argument reads behind the call as it read before'; 0 by the template 'total and deterministic' (their statements: YtjgabbhflnkbmaaDoorTotals.lean).
  GIVEN WITH THE SEED: the statements are not yours to turn. If you find one false, say at which input.
  Laid BY PROGRAM, IN A SANDBOX (cutbox-rows.mjs): the forced cells as the released guide's own fill.sh prints them over the translation bd2252a65e66f581… (all of the seat's roots in one cut). By AI agents, Wed Nov 11 2026. No macro, syntax, notation, axiom, sorry.
-/
import Derived.Test.YtjgabbhflnkbmaaDoorChecked
import GoSem.Claim
import GoSem.ClaimJoined
import GoSem.ClaimMapViews
import Derived.JoinedTies
import Derived.KernelRfl
namespace Go.Proofs.YtjgabbhflnkbmaaDoor
/- THE CELL 'sum', in the pinned program and in every row, IS THE sha256 OF THE DUMP (.gsa) THAT YtjgabbhflnkbmaaDoorProg.lean LOADS. Nothing in Lean hashes anything: it is a label: what it is worth is what the hold of that sum in a sandbox is worth. -/
noncomputable def Tryd.pinned : Pinned := { name := "ytjgabbhflnkbmaadoor", sum := "bd2252a65e66f581c0c4405b79a407c4c79c2ec3b75c7c034a792c40508599ef", checked := Tryd.checked }
namespace Rows
def none {H : Type} : Left H := { results := [], args := [] }

/- WHAT THE LISTED PACKAGE-LEVEL VARIABLES READ AS WHEN THE CALL BEGINS. Each datum BY PROGRAM (the guide's laid-datum.mjs) off the statement by which the dump's own 'gosem.cut.vars' lays the variable. In a bare row this is a premise. The card (YtjgabbhflnkbmaaDoorCards.lean) ties it to the program's text. -/
def laid_idiom_civil_ahead {H : Type} : DataW H := .agg [.lit (.int .i64 0), .lit (.int .i64 0), .lit (.int .i64 31), .lit (.int .i64 59), .lit (.int .i64 90), .lit (.int .i64 120), .lit (.int .i64 151), .lit (.int .i64 181), .lit (.int .i64 212), .lit (.int .i64 243), .lit (.int .i64 273), .lit (.int .i64 304), .lit (.int .i64 334)]

/-- 'idiomlaw15.CivilDays': WHATEVER THE INPUT: true; the input reads as it did. -/
def civilDaysSpec : ChangeSpec := { name := "civilDays", fn := fun _ => fun
  | [d] => { results := [.lit (.bool true)], args := [d] }
  | _ => none }
def civilDaysRow : OpenClaim := { program := "ytjgabbhflnkbmaadoor", sum := "bd2252a65e66f581c0c4405b79a407c4c79c2ec3b75c7c034a792c40508599ef", func := "idiom/idiomlaw15.CivilDays", spec := "civilDays", named := ["idiom/civil.ahead"], apart := false, laid := [("idiom/civil.ahead", laid_idiom_civil_ahead)] }
def CivilDaysSaid : Prop := civilDaysRow.holds Tryd.pinned (OpenSpec.ofChange civilDaysSpec)

/-- ITS FALSE NEIGHBOUR: 'it returns false'. Refute it at one input. -/
def civilDaysWrong : ChangeSpec := { name := "civilDays", fn := fun _ => fun
  | [d] => { results := [.lit (.bool false)], args := [d] }
  | _ => none }
def CivilDaysWrongFalsely : Prop := civilDaysRow.holds Tryd.pinned (OpenSpec.ofChange civilDaysWrong)

/-- 'idiomlaw15.CivilJoins': WHATEVER THE INPUT: true; the input reads as it did. -/
def civilJoinsSpec : ChangeSpec := { name := "civilJoins", fn := fun _ => fun
  | [d1, d2, d3] => { results := [.lit (.bool true)], args := [d1, d2, d3] }
  | _ => none }
def civilJoinsRow : OpenClaim := { program := "ytjgabbhflnkbmaadoor", sum := "bd2252a65e66f581c0c4405b79a407c4c79c2ec3b75c7c034a792c40508599ef", func := "idiom/idiomlaw15.CivilJoins", spec := "civilJoins", named := ["idiom/civil.ahead"], apart := false, laid := [("idiom/civil.ahead", laid_idiom_civil_ahead)] }
def CivilJoinsSaid : Prop := civilJoinsRow.holds Tryd.pinned (OpenSpec.ofChange civilJoinsSpec)

/-- ITS FALSE NEIGHBOUR: 'it returns false'. Refute it at one input. -/
def civilJoinsWrong : ChangeSpec := { name := "civilJoins", fn := fun _ => fun
  | [d1, d2, d3] => { results := [.lit (.bool false)], args := [d1, d2, d3] }
  | _ => none }
def CivilJoinsWrongFalsely : Prop := civilJoinsRow.holds Tryd.pinned (OpenSpec.ofChange civilJoinsWrong)

/-- 'idiomlaw15.CivilOf': WHATEVER THE INPUT: true; the input reads as it did. -/
def civilOfSpec : ChangeSpec := { name := "civilOf", fn := fun _ => fun
  | [d] => { results := [.lit (.bool true)], args := [d] }
  | _ => none }
def civilOfRow : OpenClaim := { program := "ytjgabbhflnkbmaadoor", sum := "bd2252a65e66f581c0c4405b79a407c4c79c2ec3b75c7c034a792c40508599ef", func := "idiom/idiomlaw15.CivilOf", spec := "civilOf", named := ["idiom/civil.ahead"], apart := false, laid := [("idiom/civil.ahead", laid_idiom_civil_ahead)] }
def CivilOfSaid : Prop := civilOfRow.holds Tryd.pinned (OpenSpec.ofChange civilOfSpec)

/-- ITS FALSE NEIGHBOUR: 'it returns false'. Refute it at one input. -/
def civilOfWrong : ChangeSpec := { name := "civilOf", fn := fun _ => fun
  | [d] => { results := [.lit (.bool false)], args := [d] }
  | _ => none }
def CivilOfWrongFalsely : Prop := civilOfRow.holds Tryd.pinned (OpenSpec.ofChange civilOfWrong)

/-- 'idiomlaw15.CivilMonths': WHATEVER THE INPUT: true; the input reads as it did. -/
def civilMonthsSpec : ChangeSpec := { name := "civilMonths", fn := fun _ => fun
  | [d1, d2] => { results := [.lit (.bool true)], args := [d1, d2] }
  | _ => none }
def civilMonthsRow : OpenClaim := { program := "ytjgabbhflnkbmaadoor", sum := "bd2252a65e66f581c0c4405b79a407c4c79c2ec3b75c7c034a792c40508599ef", func := "idiom/idiomlaw15.CivilMonths", spec := "civilMonths", named := ["idiom/civil.ahead"], apart := false, laid := [("idiom/civil.ahead", laid_idiom_civil_ahead)] }
def CivilMonthsSaid : Prop := civilMonthsRow.holds Tryd.pinned (OpenSpec.ofChange civilMonthsSpec)

/-- ITS FALSE NEIGHBOUR: 'it returns false'. Refute it at one input. -/
def civilMonthsWrong : ChangeSpec := { name := "civilMonths", fn := fun _ => fun
  | [d1, d2] => { results := [.lit (.bool false)], args := [d1, d2] }
  | _ => none }
def CivilMonthsWrongFalsely : Prop := civilMonthsRow.holds Tryd.pinned (OpenSpec.ofChange civilMonthsWrong)

/-- 'idiomlaw15.CivilBack': WHATEVER THE INPUT: true; the input reads as it did. -/
def civilBackSpec : ChangeSpec := { name := "civilBack", fn := fun _ => fun
  | [d1, d2] => { results := [.lit (.bool true)], args := [d1, d2] }
  | _ => none }
def civilBackRow : OpenClaim := { program := "ytjgabbhflnkbmaadoor", sum := "bd2252a65e66f581c0c4405b79a407c4c79c2ec3b75c7c034a792c40508599ef", func := "idiom/idiomlaw15.CivilBack", spec := "civilBack", named := ["idiom/civil.ahead"], apart := false, laid := [("idiom/civil.ahead", laid_idiom_civil_ahead)] }
def CivilBackSaid : Prop := civilBackRow.holds Tryd.pinned (OpenSpec.ofChange civilBackSpec)

/-- ITS FALSE NEIGHBOUR: 'it returns false'. Refute it at one input. -/
def civilBackWrong : ChangeSpec := { name := "civilBack", fn := fun _ => fun
  | [d1, d2] => { results := [.lit (.bool false)], args := [d1, d2] }
  | _ => none }
def CivilBackWrongFalsely : Prop := civilBackRow.holds Tryd.pinned (OpenSpec.ofChange civilBackWrong)

/-- 'idiomlaw15.CivilWeeks': WHATEVER THE INPUT: true; the input reads as it did. -/
def civilWeeksSpec : ChangeSpec := { name := "civilWeeks", fn := fun _ => fun
  | [d1, d2, d3] => { results := [.lit (.bool true)], args := [d1, d2, d3] }
  | _ => none }
def civilWeeksRow : OpenClaim := { program := "ytjgabbhflnkbmaadoor", sum := "bd2252a65e66f581c0c4405b79a407c4c79c2ec3b75c7c034a792c40508599ef", func := "idiom/idiomlaw15.CivilWeeks", spec := "civilWeeks", named := ["idiom/civil.ahead"], apart := false, laid := [("idiom/civil.ahead", laid_idiom_civil_ahead)] }
def CivilWeeksSaid : Prop := civilWeeksRow.holds Tryd.pinned (OpenSpec.ofChange civilWeeksSpec)

/-- ITS FALSE NEIGHBOUR: 'it returns false'. Refute it at one input. -/
def civilWeeksWrong : ChangeSpec := { name := "civilWeeks", fn := fun _ => fun
  | [d1, d2, d3] => { results := [.lit (.bool false)], args := [d1, d2, d3] }
  | _ => none }
def CivilWeeksWrongFalsely : Prop := civilWeeksRow.holds Tryd.pinned (OpenSpec.ofChange civilWeeksWrong)

/-- 'idiomlaw15.CivilNext': WHATEVER THE INPUT: true; the input reads as it did. -/
def civilNextSpec : ChangeSpec := { name := "civilNext", fn := fun _ => fun
  | [d] => { results := [.lit (.bool true)], args := [d] }
  | _ => none }
def civilNextRow : OpenClaim := { program := "ytjgabbhflnkbmaadoor", sum := "bd2252a65e66f581c0c4405b79a407c4c79c2ec3b75c7c034a792c40508599ef", func := "idiom/idiomlaw15.CivilNext", spec := "civilNext", named := ["idiom/civil.ahead"], apart := false, laid := [("idiom/civil.ahead", laid_idiom_civil_ahead)] }
def CivilNextSaid : Prop := civilNextRow.holds Tryd.pinned (OpenSpec.ofChange civilNextSpec)

/-- ITS FALSE NEIGHBOUR: 'it returns false'. Refute it at one input. -/
def civilNextWrong : ChangeSpec := { name := "civilNext", fn := fun _ => fun
  | [d] => { results := [.lit (.bool false)], args := [d] }
  | _ => none }
def CivilNextWrongFalsely : Prop := civilNextRow.holds Tryd.pinned (OpenSpec.ofChange civilNextWrong)

/-- 'idiomlaw15.CivilSplits': WHATEVER THE INPUT: true; the input reads as it did. -/
def civilSplitsSpec : ChangeSpec := { name := "civilSplits", fn := fun _ => fun
  | [d1, d2] => { results := [.lit (.bool true)], args := [d1, d2] }
  | _ => none }
def civilSplitsRow : OpenClaim := { program := "ytjgabbhflnkbmaadoor", sum := "bd2252a65e66f581c0c4405b79a407c4c79c2ec3b75c7c034a792c40508599ef", func := "idiom/idiomlaw15.CivilSplits", spec := "civilSplits", named := ["idiom/civil.ahead"], apart := false, laid := [("idiom/civil.ahead", laid_idiom_civil_ahead)] }
def CivilSplitsSaid : Prop := civilSplitsRow.holds Tryd.pinned (OpenSpec.ofChange civilSplitsSpec)

/-- ITS FALSE NEIGHBOUR: 'it returns false'. Refute it at one input. -/
def civilSplitsWrong : ChangeSpec := { name := "civilSplits", fn := fun _ => fun
  | [d1, d2] => { results := [.lit (.bool false)], args := [d1, d2] }
  | _ => none }
def CivilSplitsWrongFalsely : Prop := civilSplitsRow.holds Tryd.pinned (OpenSpec.ofChange civilSplitsWrong)

/-- 'idiomlaw15.CivilSevens': WHATEVER THE INPUT: true; the input reads as it did. -/
def civilSevensSpec : ChangeSpec := { name := "civilSevens", fn := fun _ => fun
  | [d1, d2, d3] => { results := [.lit (.bool true)], args := [d1, d2, d3] }
  | _ => none }
def civilSevensRow : OpenClaim := { program := "ytjgabbhflnkbmaadoor", sum := "bd2252a65e66f581c0c4405b79a407c4c79c2ec3b75c7c034a792c40508599ef", func := "idiom/idiomlaw15.CivilSevens", spec := "civilSevens", named := ["idiom/civil.ahead"], apart := false, laid := [("idiom/civil.ahead", laid_idiom_civil_ahead)] }
def CivilSevensSaid : Prop := civilSevensRow.holds Tryd.pinned (OpenSpec.ofChange civilSevensSpec)

/-- ITS FALSE NEIGHBOUR: 'it returns false'. Refute it at one input. -/
def civilSevensWrong : ChangeSpec := { name := "civilSevens", fn := fun _ => fun
  | [d1, d2, d3] => { results := [.lit (.bool false)], args := [d1, d2, d3] }
  | _ => none }
def CivilSevensWrongFalsely : Prop := civilSevensRow.holds Tryd.pinned (OpenSpec.ofChange civilSevensWrong)

/-- 'idiomlaw15.CivilMoments': WHATEVER THE INPUT: true; the input reads as it did. -/
def civilMomentsSpec : ChangeSpec := { name := "civilMoments", fn := fun _ => fun
  | [d1, d2, d3] => { results := [.lit (.bool true)], args := [d1, d2, d3] }
  | _ => none }
def civilMomentsRow : OpenClaim := { program := "ytjgabbhflnkbmaadoor", sum := "bd2252a65e66f581c0c4405b79a407c4c79c2ec3b75c7c034a792c40508599ef", func := "idiom/idiomlaw15.CivilMoments", spec := "civilMoments", named := ["idiom/civil.ahead"], apart := false, laid := [("idiom/civil.ahead", laid_idiom_civil_ahead)] }
def CivilMomentsSaid : Prop := civilMomentsRow.holds Tryd.pinned (OpenSpec.ofChange civilMomentsSpec)

/-- ITS FALSE NEIGHBOUR: 'it returns false'. Refute it at one input. -/
def civilMomentsWrong : ChangeSpec := { name := "civilMoments", fn := fun _ => fun
  | [d1, d2, d3] => { results := [.lit (.bool false)], args := [d1, d2, d3] }
  | _ => none }
def CivilMomentsWrongFalsely : Prop := civilMomentsRow.holds Tryd.pinned (OpenSpec.ofChange civilMomentsWrong)

/- THE SECOND FORM. 'bulk': how many values and letters a reading holds, each counted each time it is reached (what is shared counts as often as it is met; a slice's spare places count too). A statement '..UptoSaid' is the law's where the arguments, and the package variables that the reading takes, are together of bulk at most 1048576: NARROWER than '..Said'. Prove '..Said' where nothing that the law and all that it calls make is longer than what came in: it says more and counts as full. Else prove '..UptoSaid'. A law counts once. -/
mutual
def uptoBulk {H : Type} : DataW H → Nat
  | .lit (.string bytes) => bytes.length + 1
  | .lit _ => 1
  | .nil => 1
  | .ptr d => uptoBulk d + 1
  | .slice elems spare => uptoBulkAll elems + uptoBulkAll spare + 1
  | .agg parts => uptoBulkAll parts + 1
  | .iface _ d => uptoBulk d + 1
  | .map entries => uptoBulkEntries entries + 1
  | .held _ => 1
def uptoBulkAll {H : Type} : List (DataW H) → Nat
  | [] => 0
  | d :: r => uptoBulk d + uptoBulkAll r
def uptoBulkEntries {H : Type} : List (Lit × DataW H) → Nat
  | [] => 0
  | x :: r => uptoBulkEntry x + uptoBulkEntries r
def uptoBulkEntry {H : Type} : Lit × DataW H → Nat
  | (.string bytes, d) => bytes.length + uptoBulk d + 1
  | (_, d) => uptoBulk d + 1
 end
def uptoSmall : (H : Type) → List (DataW H) → Bool := fun _ ds => decide (uptoBulkAll ds ≤ 1048576)
def OpenSpec.upto (s : _root_.Go.ChangeSpec) : _root_.Go.OpenSpec := { _root_.Go.OpenSpec.ofChange s with cond := some uptoSmall }

/-- 'idiomlaw15.CivilDays', WHERE WHAT IT READS IS OF BULK AT MOST 1048576: true; the input reads as it did. -/
def civilDaysUptoRow : OpenClaim := { program := "ytjgabbhflnkbmaadoor", sum := "bd2252a65e66f581c0c4405b79a407c4c79c2ec3b75c7c034a792c40508599ef", func := "idiom/idiomlaw15.CivilDays", spec := "civilDays", named := ["idiom/civil.ahead"], apart := false, laid := [("idiom/civil.ahead", laid_idiom_civil_ahead)], narrowed := true }
def CivilDaysUptoSaid : Prop := civilDaysUptoRow.holds Tryd.pinned (OpenSpec.upto civilDaysSpec)

/-- 'idiomlaw15.CivilJoins', WHERE WHAT IT READS IS OF BULK AT MOST 1048576: true; the input reads as it did. -/
def civilJoinsUptoRow : OpenClaim := { program := "ytjgabbhflnkbmaadoor", sum := "bd2252a65e66f581c0c4405b79a407c4c79c2ec3b75c7c034a792c40508599ef", func := "idiom/idiomlaw15.CivilJoins", spec := "civilJoins", named := ["idiom/civil.ahead"], apart := false, laid := [("idiom/civil.ahead", laid_idiom_civil_ahead)], narrowed := true }
def CivilJoinsUptoSaid : Prop := civilJoinsUptoRow.holds Tryd.pinned (OpenSpec.upto civilJoinsSpec)

/-- 'idiomlaw15.CivilOf', WHERE WHAT IT READS IS OF BULK AT MOST 1048576: true; the input reads as it did. -/
def civilOfUptoRow : OpenClaim := { program := "ytjgabbhflnkbmaadoor", sum := "bd2252a65e66f581c0c4405b79a407c4c79c2ec3b75c7c034a792c40508599ef", func := "idiom/idiomlaw15.CivilOf", spec := "civilOf", named := ["idiom/civil.ahead"], apart := false, laid := [("idiom/civil.ahead", laid_idiom_civil_ahead)], narrowed := true }
def CivilOfUptoSaid : Prop := civilOfUptoRow.holds Tryd.pinned (OpenSpec.upto civilOfSpec)

/-- 'idiomlaw15.CivilMonths', WHERE WHAT IT READS IS OF BULK AT MOST 1048576: true; the input reads as it did. -/
def civilMonthsUptoRow : OpenClaim := { program := "ytjgabbhflnkbmaadoor", sum := "bd2252a65e66f581c0c4405b79a407c4c79c2ec3b75c7c034a792c40508599ef", func := "idiom/idiomlaw15.CivilMonths", spec := "civilMonths", named := ["idiom/civil.ahead"], apart := false, laid := [("idiom/civil.ahead", laid_idiom_civil_ahead)], narrowed := true }
def CivilMonthsUptoSaid : Prop := civilMonthsUptoRow.holds Tryd.pinned (OpenSpec.upto civilMonthsSpec)

/-- 'idiomlaw15.CivilBack', WHERE WHAT IT READS IS OF BULK AT MOST 1048576: true; the input reads as it did. -/
def civilBackUptoRow : OpenClaim := { program := "ytjgabbhflnkbmaadoor", sum := "bd2252a65e66f581c0c4405b79a407c4c79c2ec3b75c7c034a792c40508599ef", func := "idiom/idiomlaw15.CivilBack", spec := "civilBack", named := ["idiom/civil.ahead"], apart := false, laid := [("idiom/civil.ahead", laid_idiom_civil_ahead)], narrowed := true }
def CivilBackUptoSaid : Prop := civilBackUptoRow.holds Tryd.pinned (OpenSpec.upto civilBackSpec)

/-- 'idiomlaw15.CivilWeeks', WHERE WHAT IT READS IS OF BULK AT MOST 1048576: true; the input reads as it did. -/
def civilWeeksUptoRow : OpenClaim := { program := "ytjgabbhflnkbmaadoor", sum := "bd2252a65e66f581c0c4405b79a407c4c79c2ec3b75c7c034a792c40508599ef", func := "idiom/idiomlaw15.CivilWeeks", spec := "civilWeeks", named := ["idiom/civil.ahead"], apart := false, laid := [("idiom/civil.ahead", laid_idiom_civil_ahead)], narrowed := true }
def CivilWeeksUptoSaid : Prop := civilWeeksUptoRow.holds Tryd.pinned (OpenSpec.upto civilWeeksSpec)

/-- 'idiomlaw15.CivilNext', WHERE WHAT IT READS IS OF BULK AT MOST 1048576: true; the input reads as it did. -/
def civilNextUptoRow : OpenClaim := { program := "ytjgabbhflnkbmaadoor", sum := "bd2252a65e66f581c0c4405b79a407c4c79c2ec3b75c7c034a792c40508599ef", func := "idiom/idiomlaw15.CivilNext", spec := "civilNext", named := ["idiom/civil.ahead"], apart := false, laid := [("idiom/civil.ahead", laid_idiom_civil_ahead)], narrowed := true }
def CivilNextUptoSaid : Prop := civilNextUptoRow.holds Tryd.pinned (OpenSpec.upto civilNextSpec)

/-- 'idiomlaw15.CivilSplits', WHERE WHAT IT READS IS OF BULK AT MOST 1048576: true; the input reads as it did. -/
def civilSplitsUptoRow : OpenClaim := { program := "ytjgabbhflnkbmaadoor", sum := "bd2252a65e66f581c0c4405b79a407c4c79c2ec3b75c7c034a792c40508599ef", func := "idiom/idiomlaw15.CivilSplits", spec := "civilSplits", named := ["idiom/civil.ahead"], apart := false, laid := [("idiom/civil.ahead", laid_idiom_civil_ahead)], narrowed := true }
def CivilSplitsUptoSaid : Prop := civilSplitsUptoRow.holds Tryd.pinned (OpenSpec.upto civilSplitsSpec)

/-- 'idiomlaw15.CivilSevens', WHERE WHAT IT READS IS OF BULK AT MOST 1048576: true; the input reads as it did. -/
def civilSevensUptoRow : OpenClaim := { program := "ytjgabbhflnkbmaadoor", sum := "bd2252a65e66f581c0c4405b79a407c4c79c2ec3b75c7c034a792c40508599ef", func := "idiom/idiomlaw15.CivilSevens", spec := "civilSevens", named := ["idiom/civil.ahead"], apart := false, laid := [("idiom/civil.ahead", laid_idiom_civil_ahead)], narrowed := true }
def CivilSevensUptoSaid : Prop := civilSevensUptoRow.holds Tryd.pinned (OpenSpec.upto civilSevensSpec)

/-- 'idiomlaw15.CivilMoments', WHERE WHAT IT READS IS OF BULK AT MOST 1048576: true; the input reads as it did. -/
def civilMomentsUptoRow : OpenClaim := { program := "ytjgabbhflnkbmaadoor", sum := "bd2252a65e66f581c0c4405b79a407c4c79c2ec3b75c7c034a792c40508599ef", func := "idiom/idiomlaw15.CivilMoments", spec := "civilMoments", named := ["idiom/civil.ahead"], apart := false, laid := [("idiom/civil.ahead", laid_idiom_civil_ahead)], narrowed := true }
def CivilMomentsUptoSaid : Prop := civilMomentsUptoRow.holds Tryd.pinned (OpenSpec.upto civilMomentsSpec)

end Rows
end Go.Proofs.YtjgabbhflnkbmaaDoor
