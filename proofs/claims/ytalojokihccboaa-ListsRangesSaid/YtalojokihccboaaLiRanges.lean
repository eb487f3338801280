/- The law ListsRanges, printed, tells yes; conditions: none. -/
import Derived.Test.YtalojokihccboaaLiAwake
namespace Go.Proofs.Ytalojokihccboaa.Pl
open Go.RowKit Go.Proofs.YtalojokihccboaaW.PrintWords Go.Proofs.Ytalojokihccboaa.PLists Pat
theorem ranges_true (a b c : ByteArray) : Ev (fun k => idiomlaw13_ListsRanges.f k a b c) true := by
  unfold idiomlaw13_ListsRanges.f
  refine Ev.bind (Range_f a b c) ?_
  refine Ev.bind (RRange_f a b c) ?_
  simp only [if_true]
  exact Ev.bind awake_f (Ev.now _)
end Go.Proofs.Ytalojokihccboaa.Pl
