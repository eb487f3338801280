/- The plain law of CivilWeeks: at every input the printed law answers true; no condition. -/
import Derived.Test.YtjgabbhflnkbmaaDoorPlRWeek
import Derived.Test.YtjgabbhflnkbmaaDoorPCivilx21
namespace Go.Proofs.YtjgabbhflnkbmaaDoor.Pl
open Go.RowKit Go.Proofs.YtjgabbhflnkbmaaDoorW.PrintWords Go.Proofs.YtjgabbhflnkbmaaDoor.PCivil Cal
set_option linter.unusedVariables false
theorem CivilWeeks (y m d f l : Int) : ∃ k, idiomlaw15_CivilWeeks.f k y m d f l = some true := by
  refine ⟨20000, ?_⟩
  generalize hK : 20000 = K at *
  have h0 : 10100 ≤ K := by omega
  clear hK
  unfold idiomlaw15_CivilWeeks.f
  by_cases hd : okD y m d = true
  · by_cases h : (0 ≤ f ∧ f ≤ 6) ∧ 1 ≤ l ∧ l ≤ 7
    · rw [Week_yes hd h.1 h.2 K (by omega), RWeek_yes hd h.1 h.2 K (by omega), awake_f]; simp
    · rw [Week_arg hd h K (by omega), RWeek_arg hd h K (by omega), awake_f]; simp
  · rw [Week_date f l hd K, RWeek_date f l hd K (by omega), awake_f]; simp
end Go.Proofs.YtjgabbhflnkbmaaDoor.Pl
