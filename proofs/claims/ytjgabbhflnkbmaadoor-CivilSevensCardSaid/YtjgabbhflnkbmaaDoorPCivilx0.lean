/- Printed by a program (the kit's print.py with changes of this session: a package-level table, cells behind draws) out of Lean's own print of the program: functions of the program as plain Lean functions, and that each call comes to what they say; conditions: those that each theorem states. Not trusted: Lean checks it. -/
import Derived.Test.YtjgabbhflnkbmaaDoorProg
import Derived.Below
import Derived.Deep.Draws
import Derived.Deep.AppendLies
import Derived.Maps.AppendAt
import Derived.OwnWalk
import Derived.Laws.BytesArg
import Derived.Laws.MakeOwn
import Derived.Laws.OwnMore
import Derived.Deep.OwnRows
import Derived.Tactics
import Derived.Lib.ConvBytes
import Derived.Laws.Slices
import Derived.WalkKit
import Derived.KernelRfl
import Derived.RowKit3
import Derived.Deep.LoopGhost
import Derived.Deep.QuietTactic
import Derived.BigQuiet
import Derived.WideLaws
import Derived.Deep.DeepCutAuto
import Derived.Deep.CutBlock
import Derived.Deep.RegionHeld3
import Derived.Laws.Rows
import Derived.Lib.AppendStr
import Derived.ArgAppend
import Derived.Laws.IdiomCopy
import Derived.OrdersHeld
import Derived.Laws.BitsLemmas
import Derived.RowKit
import Derived.Test.YtjgabbhflnkbmaaDoorWWords
import Derived.Test.YtjgabbhflnkbmaaDoorWLast
import Derived.Test.YtjgabbhflnkbmaaDoorWTab
import Derived.Test.YtjgabbhflnkbmaaDoorWFour
import Derived.Test.YtjgabbhflnkbmaaDoorWQPut
import Derived.Test.YtjgabbhflnkbmaaDoorWApart
import Derived.Test.YtjgabbhflnkbmaaDoorWArr
import Derived.Test.YtjgabbhflnkbmaaDoorWZeros
import Derived.Test.YtjgabbhflnkbmaaDoorWFoot
import Derived.Test.YtjgabbhflnkbmaaDoorWKept
import Derived.Test.YtjgabbhflnkbmaaDoorWShare
import Derived.Test.YtjgabbhflnkbmaaDoorWN
import Derived.Test.YtjgabbhflnkbmaaDoorWFootNe
import Derived.Test.YtjgabbhflnkbmaaDoorWAt
import Derived.Test.YtjgabbhflnkbmaaDoorWEqStruct
import Derived.Test.YtjgabbhflnkbmaaDoorWRepsOne
import Derived.Test.YtjgabbhflnkbmaaDoorWInv
import Derived.Test.YtjgabbhflnkbmaaDoorWInvWords
import Derived.Test.YtjgabbhflnkbmaaDoorWGuard
import Derived.Test.YtjgabbhflnkbmaaDoorWNEv
import Derived.Test.YtjgabbhflnkbmaaDoorWMore
namespace Go.Proofs.YtjgabbhflnkbmaaDoor.PCivil
open Go.RowKit Go.Proofs.YtjgabbhflnkbmaaDoorW.PrintWords Go.Proofs.YtjgabbhflnkbmaaDoorW.PrintLast Go.Proofs.YtjgabbhflnkbmaaDoorW.PrintMore
attribute [local go_sem] max2_int min2_int max_two min_two max_three min_three max_four min_four   -- for this text's walks alone
set_option linter.unusedVariables false
set_option linter.unusedSimpArgs false



def errW : Option Int → Value
  | none => .nilIface
  | some c => .iface 0 (.int .i64 c)
theorem errW_none : errW none = .nilIface := rfl
theorem errW_some (c : Int) : errW (some c) = .iface 0 (.int .i64 c) := rfl

-- the values' own types

theorem setCell_drewN_ (w : World) (n : Nat) (a : Addr) (v : Value) : (w.drewN n).setCell a v = (w.setCell a v).drewN n := rfl
theorem cell_put_twice_ (w : World) (a : Addr) (u v : Value) (h : (w.cell? a).isSome = true) : ((w.setCell a u).setCell a v).cell? a = some v :=
  World.cell?_setCell_same' _ _ _ (by rw [World.cell?_setCell_same' _ _ _ h]; rfl)

end Go.Proofs.YtjgabbhflnkbmaaDoor.PCivil
