/- What the document's printed Join comes to: the moment of a day and a time of day; conditions: rounds enough. And the plain law of CivilJoins. -/
import Derived.Test.YtjgabbhflnkbmaaDoorPlJoin
import Derived.Test.YtjgabbhflnkbmaaDoorPCivilx12
namespace Go.Proofs.YtjgabbhflnkbmaaDoor.Pl
open Go.RowKit Go.Proofs.YtjgabbhflnkbmaaDoorW.PrintWords Go.Proofs.YtjgabbhflnkbmaaDoor.PCivil Cal
set_option linter.unusedVariables false
theorem CheckClock_f (a b c e : Int) : idiomref15_CheckClock.f a b c e = some (if okC a b c e = true then 0 else 151) := by
  unfold idiomref15_CheckClock.f
  by_cases h : okC a b c e = true
  · rw [if_pos h]; rw [okC_iff] at h
    rw [if_neg (by omega), if_neg (by omega), if_neg (by omega), if_neg (by omega), if_neg (by omega), if_neg (by omega), if_neg (by omega), if_neg (by omega)]
  · rw [if_neg h]; rw [okC_iff] at h
    repeat' (first | rfl | split)
    omega
theorem RJoin_yes {y m d a b c e z : Int} (hd : okD y m d = true) (hc : okC a b c e = true) (hz : -1080 ≤ z ∧ z ≤ 1080) (k : Nat) (hk : 10001 ≤ k) :
    idiomref15_Join.f k y m d a b c e z = some (mom (nm y m d) a b c e z, 0) := by
  unfold idiomref15_Join.f
  have bn := nm_bd hd
  rw [RCheck_f _ _ _ _ (by omega), if_pos hd]; simp only [Option.bind_some, if_true]
  rw [CheckClock_f, if_pos hc]; simp only [Option.bind_some, if_true]
  rw [okC_iff] at hc
  rw [if_neg (by omega), if_neg (by omega), rdays_f k hd hk]
  simp only [Option.bind_some]
  rw [w64 (x := nm y m d * 86400000) (by omega), w64 (x := a * 60) (by omega), w64 (x := a * 60 + b) (by omega), w64 (x := a * 60 + b - z) (by omega), w64 (x := (a * 60 + b - z) * 60) (by omega), w64 (x := (a * 60 + b - z) * 60 + c) (by omega), w64 (x := ((a * 60 + b - z) * 60 + c) * 1000) (by omega), w64 (x := ((a * 60 + b - z) * 60 + c) * 1000 + e) (by omega), w64 (by omega)]
  unfold mom
  congr 2; omega
theorem RJoin_date {y m d : Int} (a b c e z : Int) (hd : ¬ okD y m d = true) (k : Nat) (hk : 1 ≤ k) : idiomref15_Join.f k y m d a b c e z = some (0, 150) := by
  unfold idiomref15_Join.f
  rw [RCheck_f _ _ _ _ (by omega), if_neg hd]; simp
theorem RJoin_clk {y m d a b c e : Int} (z : Int) (hd : okD y m d = true) (hc : ¬ okC a b c e = true) (k : Nat) (hk : 1 ≤ k) : idiomref15_Join.f k y m d a b c e z = some (0, 151) := by
  unfold idiomref15_Join.f
  rw [RCheck_f _ _ _ _ (by omega), if_pos hd]; simp only [Option.bind_some, if_true]
  rw [CheckClock_f, if_neg hc]; simp
theorem RJoin_arg {y m d a b c e z : Int} (hd : okD y m d = true) (hc : okC a b c e = true) (hz : ¬ (-1080 ≤ z ∧ z ≤ 1080)) (k : Nat) (hk : 1 ≤ k) : idiomref15_Join.f k y m d a b c e z = some (0, 1) := by
  unfold idiomref15_Join.f
  rw [RCheck_f _ _ _ _ (by omega), if_pos hd]; simp only [Option.bind_some, if_true]
  rw [CheckClock_f, if_pos hc]; simp only [Option.bind_some, if_true]
  by_cases c1 : z < -1080
  · rw [if_pos c1]
  · rw [if_neg c1, if_pos (by omega)]
theorem CivilJoins (y m d a b c e z : Int) : ∃ k, idiomlaw15_CivilJoins.f k y m d a b c e z = some true := by
  refine ⟨20000, ?_⟩
  generalize hK : 20000 = K at *
  have h0 : 10100 ≤ K := by omega
  clear hK
  unfold idiomlaw15_CivilJoins.f
  by_cases hd : okD y m d = true
  · by_cases hc : okC a b c e = true
    · by_cases hz : -1080 ≤ z ∧ z ≤ 1080
      · rw [Join_yes hd hc hz K (by omega), RJoin_yes hd hc hz K (by omega), awake_f]; simp
      · rw [Join_arg hd hc hz K (by omega), RJoin_arg hd hc hz K (by omega), awake_f]; simp
    · rw [Join_clk z hd hc K (by omega), RJoin_clk z hd hc K (by omega), awake_f]; simp
  · rw [Join_date a b c e z hd K, RJoin_date a b c e z hd K (by omega), awake_f]; simp
end Go.Proofs.YtjgabbhflnkbmaaDoor.Pl
