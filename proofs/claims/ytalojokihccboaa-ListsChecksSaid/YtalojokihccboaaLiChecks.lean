/- The law ListsChecks, printed, tells yes; conditions: none. -/
import Derived.Test.YtalojokihccboaaLiAwake
namespace Go.Proofs.Ytalojokihccboaa.Pl
open Go.RowKit Go.Proofs.YtalojokihccboaaW.PrintWords Go.Proofs.Ytalojokihccboaa.PLists Pat
theorem checks_true (a b c d : ByteArray) : Ev (fun k => idiomlaw13_ListsChecks.f k a b c d) true := by
  unfold idiomlaw13_ListsChecks.f
  refine Ev.bind (f := fun k t154 => (idiomref13_Check.f k a b c d).bind fun t155 => (if t154 = t155 then ((idiomlaw13_awake.f k).bind fun t156 => (some t156)) else (some false))) (a := ccode a b c d) (Ev.congr (fun _ => Check_f a b c d) (Ev.now _)) ?_
  refine Ev.bind (RCheck_f a b c d) ?_
  simp only [if_true]
  exact Ev.bind awake_f (Ev.now _)
end Go.Proofs.Ytalojokihccboaa.Pl
