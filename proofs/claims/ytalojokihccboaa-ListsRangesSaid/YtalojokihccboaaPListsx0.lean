/- Printed by a program (the kit's print.py with changes of this session) out of Lean's own print of the program: functions of the program as plain Lean functions, and that each call comes to what they say; conditions: those that each theorem states. Not trusted: Lean checks it. -/
import Derived.Test.YtalojokihccboaaProg
import Derived.Below
import Derived.Deep.Draws
import Derived.Deep.AppendLies
import Derived.Maps.AppendAt
import Derived.OwnWalk
import Derived.Laws.BytesArg
import Derived.Laws.MakeOwn
import Derived.Laws.OwnMore
import Derived.Deep.OwnRows
import Derived.Tactics
import Derived.Lib.ConvBytes
import Derived.Laws.Slices
import Derived.WalkKit
import Derived.KernelRfl
import Derived.RowKit3
import Derived.Deep.LoopGhost
import Derived.Deep.QuietTactic
import Derived.BigQuiet
import Derived.WideLaws
import Derived.Deep.DeepCutAuto
import Derived.Deep.CutBlock
import Derived.Deep.RegionHeld3
import Derived.Laws.Rows
import Derived.Lib.AppendStr
import Derived.ArgAppend
import Derived.Laws.IdiomCopy
import Derived.OrdersHeld
import Derived.Laws.BitsLemmas
import Derived.RowKit
import Derived.Test.YtalojokihccboaaShelf
import Derived.Test.YtalojokihccboaaBd
import Derived.Test.YtalojokihccboaaWWords
import Derived.Test.YtalojokihccboaaWLast
import Derived.Test.YtalojokihccboaaWTab
import Derived.Test.YtalojokihccboaaWFour
import Derived.Test.YtalojokihccboaaWQPut
import Derived.Test.YtalojokihccboaaWApart
import Derived.Test.YtalojokihccboaaWArr
import Derived.Test.YtalojokihccboaaWZeros
import Derived.Test.YtalojokihccboaaWFoot
import Derived.Test.YtalojokihccboaaWKept
import Derived.Test.YtalojokihccboaaWShare
import Derived.Test.YtalojokihccboaaWN
import Derived.Test.YtalojokihccboaaWFootNe
import Derived.Test.YtalojokihccboaaWAt
import Derived.Test.YtalojokihccboaaWEqStruct
import Derived.Test.YtalojokihccboaaWRepsOne
import Derived.Test.YtalojokihccboaaWInv
import Derived.Test.YtalojokihccboaaWInvWords
import Derived.Test.YtalojokihccboaaWGuard
import Derived.Test.YtalojokihccboaaWNEv
import Derived.Test.YtalojokihccboaaWMore
namespace Go.Proofs.Ytalojokihccboaa.PLists
open Go.RowKit Go.Proofs.YtalojokihccboaaW.PrintWords Go.Proofs.YtalojokihccboaaW.PrintLast Go.Proofs.YtalojokihccboaaW.PrintMore
attribute [local go_sem] max2_int min2_int max_two min_two max_three min_three max_four min_four   -- for this text's walks alone
set_option linter.unusedVariables false
set_option linter.unusedSimpArgs false



def errW : Option Int → Value
  | none => .nilIface
  | some c => .iface 0 (.int .i64 c)
theorem errW_none : errW none = .nilIface := rfl
theorem errW_some (c : Int) : errW (some c) = .iface 0 (.int .i64 c) := rfl

theorem info9 : (Try.prog.info? 9).map (fun i => (i.zero, i.size, i.bytes)) = some (some (.string ⟨#[]⟩), 1, 16) := by kernel_rfl
-- the values' own types

theorem info5 : (Try.prog.info? 5).map (fun i => (i.zero, i.size, i.bytes)) = some (some (.int .u8 0), 1, 1) := by kernel_rfl
theorem setCell_drewN_ (w : World) (n : Nat) (a : Addr) (v : Value) : (w.drewN n).setCell a v = (w.setCell a v).drewN n := rfl
theorem cell_put_twice_ (w : World) (a : Addr) (u v : Value) (h : (w.cell? a).isSome = true) : ((w.setCell a u).setCell a v).cell? a = some v :=
  World.cell?_setCell_same' _ _ _ (by rw [World.cell?_setCell_same' _ _ _ h]; rfl)

end Go.Proofs.Ytalojokihccboaa.PLists
