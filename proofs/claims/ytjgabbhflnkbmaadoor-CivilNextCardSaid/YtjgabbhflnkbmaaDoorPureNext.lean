/- The plain law of CivilNext: at every day the printed law answers true; no condition. -/
import Derived.Test.YtjgabbhflnkbmaaDoorPlOf
import Derived.Test.YtjgabbhflnkbmaaDoorPCivilx22
namespace Go.Proofs.YtjgabbhflnkbmaaDoor.Pl
open Go.RowKit Go.Proofs.YtjgabbhflnkbmaaDoorW.PrintWords Go.Proofs.YtjgabbhflnkbmaaDoor.PCivil Cal
set_option linter.unusedVariables false
theorem wd_next (n : Int) (h : -100000000 ≤ n ∧ n ≤ 10000000) : Int.tmod (wrap64 (wd n + 1)) 7 = wd (n + 1) := by
  have hw : 0 ≤ wd n ∧ wd n < 7 := by unfold wd; omega
  rw [w64 (by omega), Int.tmod_eq_emod_of_nonneg (by omega)]
  unfold wd; omega
theorem nm_last {y m d : Int} (h : okD y m d = true) (e : ¬ nm y m d + 1 ≤ 2932896) : y = 9999 ∧ m = 12 ∧ d = 31 := by
  have b := nm_bd h
  have h2 : okD 9999 12 31 = true := by decide
  have e2 : nm 9999 12 31 = 2932896 := by decide
  exact nm_inj h h2 (by omega)
theorem next_month {y m d : Int} (h : okD y m d = true) (h1 : ¬ okD y m (d + 1) = true) (hm : m ≠ 12) : okD y (m + 1) 1 = true ∧ nm y (m + 1) 1 = nm y m d + 1 := by
  rw [okD_iff] at h h1
  have hl := ml_bd y (m + 1)
  have e := cm_succ y m (by omega) (by omega)
  constructor
  · rw [okD_iff]; omega
  · unfold nm yd; omega
theorem next_year {y m d : Int} (h : okD y m d = true) (h1 : ¬ okD y m (d + 1) = true) (hm : m = 12) (hn : nm y m d + 1 ≤ 2932896) : okD (y + 1) 1 1 = true ∧ nm (y + 1) 1 1 = nm y m d + 1 := by
  have b := nm_bd h
  rw [okD_iff] at h h1
  subst hm
  have hl := cm_last y
  have hs := bg_succ y
  have h1' := cm_one (y + 1)
  have hy : bg (y + 1) = nm y 12 d + 1 := by unfold nm yd; omega
  have ht := bg_top (y + 1) (by omega)
  constructor
  · rw [okD_iff]
    have : (28 : Int) ≤ ml (y + 1) 1 := (ml_bd _ _).1
    omega
  · unfold nm yd at *; omega
theorem CivilNext (y m d : Int) : ∃ k, idiomlaw15_CivilNext.f k y m d = some true := by
  refine ⟨20000, ?_⟩
  generalize hK : 20000 = K at *
  have h0 : 10100 ≤ K := by omega
  clear hK
  unfold idiomlaw15_CivilNext.f
  by_cases h : okD y m d = true
  · have b := nm_bd h
    have hg := okD_iff.1 h
    have hml := ml_bd y m
    rw [Days_yes h]; simp only [Option.bind_some, if_true]
    rw [w64 (x := nm y m d + 1) (by omega)]
    by_cases hn : nm y m d + 1 ≤ 2932896
    · by_cases h1 : okD y m (d + 1) = true
      · have e : nm y m d + 1 = nm y m (d + 1) := by unfold nm yd; omega
        rw [e, Of_nm h1 K h0]; simp only [Option.bind_some, if_true]
        rw [w64 (x := d + 1) (by omega), Check_f, if_pos h1]; simp only [Option.bind_some, if_true]
        rw [Weekday_yes h, Weekday_yes h1, awake_f]
        simp only [Option.bind_some]
        rw [wd_next _ (by omega), e]; simp
      · by_cases hm : m = 12
        · obtain ⟨h2, e⟩ := next_year h h1 hm hn
          rw [← e, Of_nm h2 K h0]; simp only [Option.bind_some, if_true]
          rw [w64 (x := d + 1) (by omega), Check_f, if_neg h1]; simp only [Option.bind_some]
          rw [if_neg (by decide), if_pos hm, Weekday_yes h, Weekday_yes h2, awake_f]
          simp only [Option.bind_some]
          rw [wd_next _ (by omega), e, w64 (x := y + 1) (by omega)]; simp
        · obtain ⟨h2, e⟩ := next_month h h1 hm
          rw [← e, Of_nm h2 K h0]; simp only [Option.bind_some, if_true]
          rw [w64 (x := d + 1) (by omega), Check_f, if_neg h1]; simp only [Option.bind_some]
          rw [if_neg (by decide), if_neg hm, Weekday_yes h, Weekday_yes h2, awake_f]
          simp only [Option.bind_some]
          rw [wd_next _ (by omega), e, w64 (x := m + 1) (by omega)]; simp
    · obtain ⟨rfl, rfl, rfl⟩ := nm_last h hn
      rw [Of_no _ (by omega) K (by omega)]; simp only [Option.bind_some]
      rw [if_neg (by decide), awake_f]; simp
  · rw [Days_no h]; simp only [Option.bind_some]
    rw [if_neg (by decide), RCheck_f _ _ _ _ (by omega), if_neg h, awake_f]; simp
end Go.Proofs.YtjgabbhflnkbmaaDoor.Pl
