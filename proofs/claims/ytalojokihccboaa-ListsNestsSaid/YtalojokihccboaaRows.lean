/-
  No cell of these rows narrows 'for every input' (looked for: loops, veiled, ifaces, maps, wideKeys, modest, calm, conditions, laid).
  DERIVED. THE GIVEN ROWS OF THIS SEAT. 5 by the template 'for every input the law returns true; each argument reads behind the call as it read before'; 0 by the template 'total and deterministic' (their statements: YtalojokihccboaaTotals.lean).
  GIVEN WITH THE SEED: the statements are not yours to turn. If you find one false, say at which input.
  Laid BY PROGRAM, IN A SANDBOX (cutbox-rows.mjs): the forced cells as the released guide's own fill.sh prints them over the translation 753ab9a8e607a8c3… (all of the seat's roots in one cut). By AI agents, Wed Nov 11 2026. No macro, syntax, notation, axiom, sorry.
-/
import Derived.Test.YtalojokihccboaaChecked
import GoSem.Claim
import GoSem.ClaimJoined
import GoSem.ClaimMapViews
import Derived.JoinedTies
import Derived.KernelRfl
namespace Go.Proofs.Ytalojokihccboaa
/- THE CELL 'sum', in the pinned program and in every row, IS THE sha256 OF THE DUMP (.gsa) THAT YtalojokihccboaaProg.lean LOADS. Nothing in Lean hashes anything: it is a label: what it is worth is what the hold of that sum in a sandbox is worth. -/
noncomputable def Try.pinned : Pinned := { name := "ytalojokihccboaa", sum := "753ab9a8e607a8c38a2256e3c3994f0c00e2474225ddb60af462662b8ad75032", checked := Try.checked }
namespace Rows
def none {H : Type} : Left H := { results := [], args := [] }

/-- 'idiomlaw13.ListsChecks': WHATEVER THE INPUT: true; the input reads as it did. -/
def listsChecksSpec : ChangeSpec := { name := "listsChecks", fn := fun _ => fun
  | [d] => { results := [.lit (.bool true)], args := [d] }
  | _ => none }
def listsChecksRow : OpenClaim := { program := "ytalojokihccboaa", sum := "753ab9a8e607a8c38a2256e3c3994f0c00e2474225ddb60af462662b8ad75032", func := "idiom/idiomlaw13.ListsChecks", spec := "listsChecks", inPlace := ["internal/bytealg.IndexByteString", "internal/bytealg.IndexString", "internal/bytealg.CountString", "internal/abi.NoEscape", "internal/bytealg.MakeNoZero"], named := ["internal/bytealg.MaxLen"], apart := false }
def ListsChecksSaid : Prop := listsChecksRow.holds Try.pinned (OpenSpec.ofChange listsChecksSpec)

/-- ITS FALSE NEIGHBOUR: 'it returns false'. Refute it at one input. -/
def listsChecksWrong : ChangeSpec := { name := "listsChecks", fn := fun _ => fun
  | [d] => { results := [.lit (.bool false)], args := [d] }
  | _ => none }
def ListsChecksWrongFalsely : Prop := listsChecksRow.holds Try.pinned (OpenSpec.ofChange listsChecksWrong)

/-- 'idiomlaw13.ListsJoins': WHATEVER THE INPUT: true; the input reads as it did. -/
def listsJoinsSpec : ChangeSpec := { name := "listsJoins", fn := fun _ => fun
  | [d1, d2] => { results := [.lit (.bool true)], args := [d1, d2] }
  | _ => none }
def listsJoinsRow : OpenClaim := { program := "ytalojokihccboaa", sum := "753ab9a8e607a8c38a2256e3c3994f0c00e2474225ddb60af462662b8ad75032", func := "idiom/idiomlaw13.ListsJoins", spec := "listsJoins", inPlace := ["internal/bytealg.IndexByteString", "internal/bytealg.IndexString", "internal/bytealg.CountString", "internal/abi.NoEscape", "internal/bytealg.MakeNoZero"], named := ["internal/bytealg.MaxLen"], apart := false }
def ListsJoinsSaid : Prop := listsJoinsRow.holds Try.pinned (OpenSpec.ofChange listsJoinsSpec)

/-- ITS FALSE NEIGHBOUR: 'it returns false'. Refute it at one input. -/
def listsJoinsWrong : ChangeSpec := { name := "listsJoins", fn := fun _ => fun
  | [d1, d2] => { results := [.lit (.bool false)], args := [d1, d2] }
  | _ => none }
def ListsJoinsWrongFalsely : Prop := listsJoinsRow.holds Try.pinned (OpenSpec.ofChange listsJoinsWrong)

/-- 'idiomlaw13.ListsHolds': WHATEVER THE INPUT: true; the input reads as it did. -/
def listsHoldsSpec : ChangeSpec := { name := "listsHolds", fn := fun _ => fun
  | [d1, d2] => { results := [.lit (.bool true)], args := [d1, d2] }
  | _ => none }
def listsHoldsRow : OpenClaim := { program := "ytalojokihccboaa", sum := "753ab9a8e607a8c38a2256e3c3994f0c00e2474225ddb60af462662b8ad75032", func := "idiom/idiomlaw13.ListsHolds", spec := "listsHolds", inPlace := ["internal/bytealg.IndexByteString", "internal/bytealg.IndexString", "internal/bytealg.CountString", "internal/abi.NoEscape", "internal/bytealg.MakeNoZero"], named := ["internal/bytealg.MaxLen"], apart := false }
def ListsHoldsSaid : Prop := listsHoldsRow.holds Try.pinned (OpenSpec.ofChange listsHoldsSpec)

/-- ITS FALSE NEIGHBOUR: 'it returns false'. Refute it at one input. -/
def listsHoldsWrong : ChangeSpec := { name := "listsHolds", fn := fun _ => fun
  | [d1, d2] => { results := [.lit (.bool false)], args := [d1, d2] }
  | _ => none }
def ListsHoldsWrongFalsely : Prop := listsHoldsRow.holds Try.pinned (OpenSpec.ofChange listsHoldsWrong)

/-- 'idiomlaw13.ListsRanges': WHATEVER THE INPUT: true; the input reads as it did. -/
def listsRangesSpec : ChangeSpec := { name := "listsRanges", fn := fun _ => fun
  | [d1, d2, d3] => { results := [.lit (.bool true)], args := [d1, d2, d3] }
  | _ => none }
def listsRangesRow : OpenClaim := { program := "ytalojokihccboaa", sum := "753ab9a8e607a8c38a2256e3c3994f0c00e2474225ddb60af462662b8ad75032", func := "idiom/idiomlaw13.ListsRanges", spec := "listsRanges", inPlace := ["internal/bytealg.IndexByteString", "internal/bytealg.IndexString", "internal/bytealg.CountString", "internal/abi.NoEscape", "internal/bytealg.MakeNoZero"], named := ["internal/bytealg.MaxLen"], apart := false }
def ListsRangesSaid : Prop := listsRangesRow.holds Try.pinned (OpenSpec.ofChange listsRangesSpec)

/-- ITS FALSE NEIGHBOUR: 'it returns false'. Refute it at one input. -/
def listsRangesWrong : ChangeSpec := { name := "listsRanges", fn := fun _ => fun
  | [d1, d2, d3] => { results := [.lit (.bool false)], args := [d1, d2, d3] }
  | _ => none }
def ListsRangesWrongFalsely : Prop := listsRangesRow.holds Try.pinned (OpenSpec.ofChange listsRangesWrong)

/-- 'idiomlaw13.ListsNests': WHATEVER THE INPUT: true; the input reads as it did. -/
def listsNestsSpec : ChangeSpec := { name := "listsNests", fn := fun _ => fun
  | [d1, d2] => { results := [.lit (.bool true)], args := [d1, d2] }
  | _ => none }
def listsNestsRow : OpenClaim := { program := "ytalojokihccboaa", sum := "753ab9a8e607a8c38a2256e3c3994f0c00e2474225ddb60af462662b8ad75032", func := "idiom/idiomlaw13.ListsNests", spec := "listsNests", inPlace := ["internal/bytealg.IndexByteString", "internal/bytealg.IndexString", "internal/bytealg.CountString", "internal/abi.NoEscape", "internal/bytealg.MakeNoZero"], named := ["internal/bytealg.MaxLen"], apart := false }
def ListsNestsSaid : Prop := listsNestsRow.holds Try.pinned (OpenSpec.ofChange listsNestsSpec)

/-- ITS FALSE NEIGHBOUR: 'it returns false'. Refute it at one input. -/
def listsNestsWrong : ChangeSpec := { name := "listsNests", fn := fun _ => fun
  | [d1, d2] => { results := [.lit (.bool false)], args := [d1, d2] }
  | _ => none }
def ListsNestsWrongFalsely : Prop := listsNestsRow.holds Try.pinned (OpenSpec.ofChange listsNestsWrong)

/- THE SECOND FORM. 'bulk': how many values and letters a reading holds, each counted each time it is reached (what is shared counts as often as it is met; a slice's spare places count too). A statement '..UptoSaid' is the law's where the arguments, and the package variables that the reading takes, are together of bulk at most 1048576: NARROWER than '..Said'. Prove '..Said' where nothing that the law and all that it calls make is longer than what came in: it says more and counts as full. Else prove '..UptoSaid'. A law counts once. -/
mutual
def uptoBulk {H : Type} : DataW H → Nat
  | .lit (.string bytes) => bytes.length + 1
  | .lit _ => 1
  | .nil => 1
  | .ptr d => uptoBulk d + 1
  | .slice elems spare => uptoBulkAll elems + uptoBulkAll spare + 1
  | .agg parts => uptoBulkAll parts + 1
  | .iface _ d => uptoBulk d + 1
  | .map entries => uptoBulkEntries entries + 1
  | .held _ => 1
def uptoBulkAll {H : Type} : List (DataW H) → Nat
  | [] => 0
  | d :: r => uptoBulk d + uptoBulkAll r
def uptoBulkEntries {H : Type} : List (Lit × DataW H) → Nat
  | [] => 0
  | x :: r => uptoBulkEntry x + uptoBulkEntries r
def uptoBulkEntry {H : Type} : Lit × DataW H → Nat
  | (.string bytes, d) => bytes.length + uptoBulk d + 1
  | (_, d) => uptoBulk d + 1
 end
def uptoSmall : (H : Type) → List (DataW H) → Bool := fun _ ds => decide (uptoBulkAll ds ≤ 1048576)
def OpenSpec.upto (s : _root_.Go.ChangeSpec) : _root_.Go.OpenSpec := { _root_.Go.OpenSpec.ofChange s with cond := some uptoSmall }

/-- 'idiomlaw13.ListsChecks', WHERE WHAT IT READS IS OF BULK AT MOST 1048576: true; the input reads as it did. -/
def listsChecksUptoRow : OpenClaim := { program := "ytalojokihccboaa", sum := "753ab9a8e607a8c38a2256e3c3994f0c00e2474225ddb60af462662b8ad75032", func := "idiom/idiomlaw13.ListsChecks", spec := "listsChecks", inPlace := ["internal/bytealg.IndexByteString", "internal/bytealg.IndexString", "internal/bytealg.CountString", "internal/abi.NoEscape", "internal/bytealg.MakeNoZero"], named := ["internal/bytealg.MaxLen"], apart := false, narrowed := true }
def ListsChecksUptoSaid : Prop := listsChecksUptoRow.holds Try.pinned (OpenSpec.upto listsChecksSpec)

/-- 'idiomlaw13.ListsJoins', WHERE WHAT IT READS IS OF BULK AT MOST 1048576: true; the input reads as it did. -/
def listsJoinsUptoRow : OpenClaim := { program := "ytalojokihccboaa", sum := "753ab9a8e607a8c38a2256e3c3994f0c00e2474225ddb60af462662b8ad75032", func := "idiom/idiomlaw13.ListsJoins", spec := "listsJoins", inPlace := ["internal/bytealg.IndexByteString", "internal/bytealg.IndexString", "internal/bytealg.CountString", "internal/abi.NoEscape", "internal/bytealg.MakeNoZero"], named := ["internal/bytealg.MaxLen"], apart := false, narrowed := true }
def ListsJoinsUptoSaid : Prop := listsJoinsUptoRow.holds Try.pinned (OpenSpec.upto listsJoinsSpec)

/-- 'idiomlaw13.ListsHolds', WHERE WHAT IT READS IS OF BULK AT MOST 1048576: true; the input reads as it did. -/
def listsHoldsUptoRow : OpenClaim := { program := "ytalojokihccboaa", sum := "753ab9a8e607a8c38a2256e3c3994f0c00e2474225ddb60af462662b8ad75032", func := "idiom/idiomlaw13.ListsHolds", spec := "listsHolds", inPlace := ["internal/bytealg.IndexByteString", "internal/bytealg.IndexString", "internal/bytealg.CountString", "internal/abi.NoEscape", "internal/bytealg.MakeNoZero"], named := ["internal/bytealg.MaxLen"], apart := false, narrowed := true }
def ListsHoldsUptoSaid : Prop := listsHoldsUptoRow.holds Try.pinned (OpenSpec.upto listsHoldsSpec)

/-- 'idiomlaw13.ListsRanges', WHERE WHAT IT READS IS OF BULK AT MOST 1048576: true; the input reads as it did. -/
def listsRangesUptoRow : OpenClaim := { program := "ytalojokihccboaa", sum := "753ab9a8e607a8c38a2256e3c3994f0c00e2474225ddb60af462662b8ad75032", func := "idiom/idiomlaw13.ListsRanges", spec := "listsRanges", inPlace := ["internal/bytealg.IndexByteString", "internal/bytealg.IndexString", "internal/bytealg.CountString", "internal/abi.NoEscape", "internal/bytealg.MakeNoZero"], named := ["internal/bytealg.MaxLen"], apart := false, narrowed := true }
def ListsRangesUptoSaid : Prop := listsRangesUptoRow.holds Try.pinned (OpenSpec.upto listsRangesSpec)

/-- 'idiomlaw13.ListsNests', WHERE WHAT IT READS IS OF BULK AT MOST 1048576: true; the input reads as it did. -/
def listsNestsUptoRow : OpenClaim := { program := "ytalojokihccboaa", sum := "753ab9a8e607a8c38a2256e3c3994f0c00e2474225ddb60af462662b8ad75032", func := "idiom/idiomlaw13.ListsNests", spec := "listsNests", inPlace := ["internal/bytealg.IndexByteString", "internal/bytealg.IndexString", "internal/bytealg.CountString", "internal/abi.NoEscape", "internal/bytealg.MakeNoZero"], named := ["internal/bytealg.MaxLen"], apart := false, narrowed := true }
def ListsNestsUptoSaid : Prop := listsNestsUptoRow.holds Try.pinned (OpenSpec.upto listsNestsSpec)

end Rows
end Go.Proofs.Ytalojokihccboaa
