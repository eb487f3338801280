/- The plain law of CivilMoments: at every day, time of day and offset the printed law answers true; no condition. -/
import Derived.Test.YtjgabbhflnkbmaaDoorPlSplit
import Derived.Test.YtjgabbhflnkbmaaDoorPlRJoin
import Derived.Test.YtjgabbhflnkbmaaDoorPCivilx27
namespace Go.Proofs.YtjgabbhflnkbmaaDoor.Pl
open Go.RowKit Go.Proofs.YtjgabbhflnkbmaaDoorW.PrintWords Go.Proofs.YtjgabbhflnkbmaaDoor.PCivil Cal
set_option linter.unusedVariables false
theorem CivilMoments (y m d a b c e z : Int) : ∃ k, idiomlaw15_CivilMoments.f k y m d a b c e z = some true := by
  refine ⟨20000, ?_⟩
  generalize hK : 20000 = K at *
  have h0 : 10300 ≤ K := by omega
  clear hK
  unfold idiomlaw15_CivilMoments.f
  by_cases hd : okD y m d = true
  · by_cases hc : okC a b c e = true
    · by_cases hz : -1080 ≤ z ∧ z ≤ 1080
      · have bn := nm_bd hd
        have hcc := okC_iff.1 hc
        have eN : (mom (nm y m d) a b c e z + z * 60000) / 86400000 = nm y m d := by unfold mom; omega
        have eR : (mom (nm y m d) a b c e z + z * 60000) % 86400000 = (3600 * a + 60 * b + c) * 1000 + e := by unfold mom; omega
        rw [Join_yes hd hc hz K (by omega)]; simp only [Option.bind_some, if_true]
        rw [Split_f (by unfold mom; omega) hz (fun k hk => Fin_yes hd eN.symm (by omega) k hk) K h0, eR, awake_f]
        unfold told
        rw [show ((3600 * a + 60 * b + c) * 1000 + e) / 3600000 = a by omega, show ((3600 * a + 60 * b + c) * 1000 + e) / 60000 % 60 = b by omega, show ((3600 * a + 60 * b + c) * 1000 + e) / 1000 % 60 = c by omega, show ((3600 * a + 60 * b + c) * 1000 + e) % 1000 = e by omega]
        simp
      · rw [Join_arg hd hc hz K (by omega)]; simp only [Option.bind_some]
        rw [if_neg (by decide), RJoin_arg hd hc hz K (by omega), awake_f]; simp
    · rw [Join_clk z hd hc K (by omega)]; simp only [Option.bind_some]
      rw [if_neg (by decide), RJoin_clk z hd hc K (by omega), awake_f]; simp
  · rw [Join_date a b c e z hd K]; simp only [Option.bind_some]
    rw [if_neg (by decide), RJoin_date a b c e z hd K (by omega), awake_f]; simp
end Go.Proofs.YtjgabbhflnkbmaaDoor.Pl
