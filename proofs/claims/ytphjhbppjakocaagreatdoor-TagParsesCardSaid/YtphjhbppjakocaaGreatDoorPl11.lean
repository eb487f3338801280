/- The law TagParses tells true of every text; conditions: none. -/
import Derived.Test.YtphjhbppjakocaaGreatDoorPl10
import Derived.Test.YtphjhbppjakocaaGreatDoorPPars22
namespace Go.Proofs.YtphjhbppjakocaaGreatDoor.Pl
open Go.RowKit Go.Proofs.YtphjhbppjakocaaGreatDoorW.PrintWords Go.Proofs.YtphjhbppjakocaaGreatDoor.PTag
theorem TagParses (s : ByteArray) : Ev (fun k => idiomlaw07_TagParses.f k s) true := by
  unfold idiomlaw07_TagParses.f
  refine Ev.bind (parse_f s) (Ev.bind (rparse_f s) ?_)
  simp only [if_true]
  refine Ev.bind (same_f _ _ _ _ _ (parseP_len s).1 (parseP_len s).2) ?_
  simp only [if_true]
  exact Ev.bind awake_f (Ev.now _)
end Go.Proofs.YtphjhbppjakocaaGreatDoor.Pl
