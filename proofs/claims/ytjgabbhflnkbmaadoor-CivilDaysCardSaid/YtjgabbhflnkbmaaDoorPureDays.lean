/- The plain law of CivilDays: at every day, existing or not, the printed law answers true; no condition. -/
import Derived.Test.YtjgabbhflnkbmaaDoorPlBase
import Derived.Test.YtjgabbhflnkbmaaDoorPCivilx10
namespace Go.Proofs.YtjgabbhflnkbmaaDoor.Pl
open Go.RowKit Go.Proofs.YtjgabbhflnkbmaaDoorW.PrintWords Go.Proofs.YtjgabbhflnkbmaaDoor.PCivil Cal

theorem YearDay_yes {y m d : Int} (h : okD y m d = true) : civil_YearDay.f y m d = some (yd y m d, 0) := by
  unfold civil_YearDay.f
  rw [Check_f, if_pos h, yearDay_f h]; rfl
theorem YearDay_no {y m d : Int} (h : ¬ okD y m d = true) : civil_YearDay.f y m d = some (0, 150) := by
  unfold civil_YearDay.f
  rw [Check_f, if_neg h]; rfl
theorem RYearDay_yes (k : Nat) {y m d : Int} (h : okD y m d = true) (hk : 20 ≤ k) : idiomref15_YearDay.f k y m d = some (yd y m d, 0) := by
  unfold idiomref15_YearDay.f
  rw [RCheck_f k y m d (by omega), if_pos h, ryearDay_f k h hk]; rfl
theorem RYearDay_no (k : Nat) {y m d : Int} (h : ¬ okD y m d = true) (hk : 20 ≤ k) : idiomref15_YearDay.f k y m d = some (0, 150) := by
  unfold idiomref15_YearDay.f
  rw [RCheck_f k y m d (by omega), if_neg h]; rfl

theorem CivilDays (y m d : Int) : ∃ k, idiomlaw15_CivilDays.f k y m d = some true := by
  refine ⟨20002, ?_⟩
  generalize hK : 20000 = K at *
  have h0 : 10001 ≤ K := by omega
  rw [show 20002 = K + 2 by omega]
  clear hK
  unfold idiomlaw15_CivilDays.f
  by_cases h : okD y m d = true
  · rw [Days_yes h, RDays_yes _ h (by omega), Check_f, RCheck_f _ _ _ _ (by omega)]
    simp only [Option.bind_some, if_true, bne_self_eq_false, idiomlaw15_CivilDays.j0, Bool.false_eq_true, if_false]
    rw [Weekday_yes h, RWeekday_yes _ h (by omega)]
    simp only [Option.bind_some, if_true, bne_self_eq_false, idiomlaw15_CivilDays.j1, Bool.false_eq_true, if_false]
    rw [YearDay_yes h, RYearDay_yes _ h (by omega), awake_f]
    simp
  · rw [Days_no h, RDays_no _ h (by omega), Check_f, RCheck_f _ _ _ _ (by omega)]
    simp only [Option.bind_some, if_true, bne_self_eq_false, idiomlaw15_CivilDays.j0, Bool.false_eq_true, if_false]
    rw [Weekday_no h, RWeekday_no _ h (by omega)]
    simp only [Option.bind_some, if_true, bne_self_eq_false, idiomlaw15_CivilDays.j1, Bool.false_eq_true, if_false]
    rw [YearDay_no h, RYearDay_no _ h (by omega), awake_f]
    simp
end Go.Proofs.YtjgabbhflnkbmaaDoor.Pl
