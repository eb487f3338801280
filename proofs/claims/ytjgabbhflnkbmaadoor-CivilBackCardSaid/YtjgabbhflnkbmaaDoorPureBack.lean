/- The plain law of CivilBack: at every day and number the printed law answers true; no condition. -/
import Derived.Test.YtjgabbhflnkbmaaDoorPlROf
import Derived.Test.YtjgabbhflnkbmaaDoorPCivilx18
namespace Go.Proofs.YtjgabbhflnkbmaaDoor.Pl
open Go.RowKit Go.Proofs.YtjgabbhflnkbmaaDoorW.PrintWords Go.Proofs.YtjgabbhflnkbmaaDoor.PCivil Cal
set_option linter.unusedVariables false
theorem Back_j0 (n : Int) (k : Nat) (hk : 10100 ≤ k) : idiomlaw15_CivilBack.j0 (k + 1) n = some true := by
  simp only [idiomlaw15_CivilBack.j0]
  by_cases h : -719162 ≤ n ∧ n ≤ 2932896
  · obtain ⟨y, m, d, g1, g2, g3⟩ := Of_yes n h k hk
    rw [g3]; simp only [Option.bind_some, if_true]
    rw [Days_yes g1, g2, awake_f]; simp
  · rw [Of_no n h k (by omega)]; simp only [Option.bind_some]
    rw [if_neg (by decide), ROf_no n h k (by omega), awake_f]; simp
theorem CivilBack (y m d n : Int) : ∃ k, idiomlaw15_CivilBack.f k y m d n = some true := by
  refine ⟨20001, ?_⟩
  generalize hK : 20000 = K at *
  have h0 : 10100 ≤ K := by omega
  rw [show 20001 = K + 1 by omega]
  clear hK
  unfold idiomlaw15_CivilBack.f
  by_cases h : okD y m d = true
  · rw [Days_yes h]; simp only [Option.bind_some, if_true]
    rw [Of_nm h (K + 1) (by omega)]
    simp [Back_j0 n K h0]
  · rw [Days_no h]; simp only [Option.bind_some]
    rw [if_neg (by decide), RCheck_f _ _ _ _ (by omega), if_neg h]
    simp [Back_j0 n K h0]
end Go.Proofs.YtjgabbhflnkbmaaDoor.Pl
