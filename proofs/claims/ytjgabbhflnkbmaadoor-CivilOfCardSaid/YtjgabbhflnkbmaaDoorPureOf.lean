/- The plain law of CivilOf: at every number the printed law answers true; no condition. -/
import Derived.Test.YtjgabbhflnkbmaaDoorPlROf
import Derived.Test.YtjgabbhflnkbmaaDoorPCivilx15
namespace Go.Proofs.YtjgabbhflnkbmaaDoor.Pl
open Go.RowKit Go.Proofs.YtjgabbhflnkbmaaDoorW.PrintWords Go.Proofs.YtjgabbhflnkbmaaDoor.PCivil Cal
set_option linter.unusedVariables false
theorem CivilOf (n : Int) : ∃ k, idiomlaw15_CivilOf.f k n = some true := by
  refine ⟨20000, ?_⟩
  generalize hK : 20000 = K at *
  have h0 : 10100 ≤ K := by omega
  clear hK
  unfold idiomlaw15_CivilOf.f
  by_cases h : -719162 ≤ n ∧ n ≤ 2932896
  · obtain ⟨y, m, d, g1, g2, g3⟩ := Of_yes n h K h0
    have g4 := ROf_nm g1 K h0
    rw [g2] at g4
    rw [g3, g4, awake_f]; simp
  · rw [Of_no n h K (by omega), ROf_no n h K (by omega), awake_f]; simp
end Go.Proofs.YtjgabbhflnkbmaaDoor.Pl
