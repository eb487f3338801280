/- The plain law of CivilMonths: at every day and number of months the printed law answers true; no condition. -/
import Derived.Test.YtjgabbhflnkbmaaDoorPlBase
import Derived.Test.YtjgabbhflnkbmaaDoorPCivilx18
namespace Go.Proofs.YtjgabbhflnkbmaaDoor.Pl
open Go.RowKit Go.Proofs.YtjgabbhflnkbmaaDoorW.PrintWords Go.Proofs.YtjgabbhflnkbmaaDoor.PCivil Cal
set_option linter.unusedVariables false
theorem Add_yes {y m d n : Int} (h : okD y m d = true) (hn : -119988 ≤ n ∧ n ≤ 119988) (h0 : 0 ≤ 12 * (y - 1) + m - 1 + n) (h1 : 12 * (y - 1) + m - 1 + n < 119988) (k : Nat) (hk : 1 ≤ k) :
    civil_AddMonths.f k y m d n = some ((12 * (y - 1) + m - 1 + n) / 12 + 1, (12 * (y - 1) + m - 1 + n) % 12 + 1, mn d (ml ((12 * (y - 1) + m - 1 + n) / 12 + 1) ((12 * (y - 1) + m - 1 + n) % 12 + 1)), 0) := by
  obtain ⟨k, rfl⟩ : ∃ i, k = i + 1 := ⟨k - 1, by omega⟩
  unfold civil_AddMonths.f
  rw [Check_f, if_pos h]; simp only [Option.bind_some, if_true]
  rw [okD_iff] at h
  rw [if_neg (by omega), show decide (n > 119988) = false by simp; omega]
  simp only [civil_AddMonths.j0, Bool.false_eq_true, if_false]
  rw [w64 (x := y - 1) (by omega), w64 (x := 12 * (y - 1)) (by omega), w64 (x := 12 * (y - 1) + m) (by omega), w64 (x := 12 * (y - 1) + m - 1) (by omega), w64 (x := 12 * (y - 1) + m - 1 + n) (by omega)]
  generalize hM : 12 * (y - 1) + m - 1 + n = M at *
  rw [if_neg (by omega), if_neg (by omega), Int.tdiv_eq_ediv_of_nonneg h0, Int.tmod_eq_emod_of_nonneg h0, w64 (x := M / 12) (by omega), w64 (x := M / 12 + 1) (by omega), w64 (x := M % 12 + 1) (by omega), length_f _ _ (by omega)]
  rfl
theorem Add_no {y m d n : Int} (h : okD y m d = true) (hn : ¬ ((-119988 ≤ n ∧ n ≤ 119988) ∧ 0 ≤ 12 * (y - 1) + m - 1 + n ∧ 12 * (y - 1) + m - 1 + n < 119988)) (k : Nat) (hk : 1 ≤ k) :
    civil_AddMonths.f k y m d n = some (0, 0, 0, 150) := by
  obtain ⟨k, rfl⟩ : ∃ i, k = i + 1 := ⟨k - 1, by omega⟩
  unfold civil_AddMonths.f
  rw [Check_f, if_pos h]; simp only [Option.bind_some, if_true]
  rw [okD_iff] at h
  by_cases c1 : n < -119988
  · rw [if_pos c1]; simp [civil_AddMonths.j0]
  · rw [if_neg c1]
    by_cases c2 : n > 119988
    · rw [show decide (n > 119988) = true by simpa using c2]; simp [civil_AddMonths.j0]
    · rw [show decide (n > 119988) = false by simpa using c2]
      simp only [civil_AddMonths.j0, Bool.false_eq_true, if_false]
      rw [w64 (x := y - 1) (by omega), w64 (x := 12 * (y - 1)) (by omega), w64 (x := 12 * (y - 1) + m) (by omega), w64 (x := 12 * (y - 1) + m - 1) (by omega), w64 (x := 12 * (y - 1) + m - 1 + n) (by omega)]
      by_cases c3 : 12 * (y - 1) + m - 1 + n < 0
      · rw [if_pos c3]
      · rw [if_neg c3, if_pos (by omega)]
theorem RAdd_yes {y m d n : Int} (h : okD y m d = true) (hn : -119988 ≤ n ∧ n ≤ 119988) (h0 : 0 ≤ 12 * (y - 1) + m - 1 + n) (h1 : 12 * (y - 1) + m - 1 + n < 119988) (k : Nat) (hk : 5 ≤ k) :
    idiomref15_AddMonths.f k y m d n = some ((12 * (y - 1) + m - 1 + n) / 12 + 1, (12 * (y - 1) + m - 1 + n) % 12 + 1, mn d (ml ((12 * (y - 1) + m - 1 + n) / 12 + 1) ((12 * (y - 1) + m - 1 + n) % 12 + 1)), 0) := by
  obtain ⟨k, rfl⟩ : ∃ i, k = i + 2 := ⟨k - 2, by omega⟩
  unfold idiomref15_AddMonths.f
  rw [RCheck_f _ _ _ _ (by omega), if_pos h]; simp only [Option.bind_some, if_true]
  rw [okD_iff] at h
  rw [if_neg (by omega), show decide (n < -120000) = false by simp; omega]
  simp only [idiomref15_AddMonths.j0, Bool.false_eq_true, if_false]
  rw [w64 (x := y * 12) (by omega), w64 (x := y * 12 + m) (by omega), w64 (x := y * 12 + m - 1) (by omega), w64 (x := y * 12 + m - 1 + n) (by omega)]
  generalize hM : 12 * (y - 1) + m - 1 + n = M at *
  obtain hR : y * 12 + m - 1 + n = M + 12 := by omega
  rw [hR, if_neg (by omega), show decide (M + 12 > 119999) = false by simp; omega]
  simp only [idiomref15_AddMonths.j1, Bool.false_eq_true, if_false]
  rw [Int.tdiv_eq_ediv_of_nonneg (by omega), Int.tmod_eq_emod_of_nonneg (by omega), show (M + 12) / 12 = M / 12 + 1 by omega, show (M + 12) % 12 = M % 12 by omega, w64 (x := M / 12 + 1) (by omega), w64 (x := M % 12 + 1) (by omega), Month_f _ _ _ (by omega) (by omega)]
  simp only [Option.bind_some]
  by_cases c : d > ml (M / 12 + 1) (M % 12 + 1)
  · rw [if_pos c]; congr 4; unfold mn; omega
  · rw [if_neg c]; congr 4; unfold mn; omega
theorem RAdd_no {y m d n : Int} (hn : ¬ (okD y m d = true ∧ (-119988 ≤ n ∧ n ≤ 119988) ∧ 0 ≤ 12 * (y - 1) + m - 1 + n ∧ 12 * (y - 1) + m - 1 + n < 119988)) (k : Nat) (hk : 5 ≤ k) :
    idiomref15_AddMonths.f k y m d n = some (0, 0, 0, 150) := by
  obtain ⟨k, rfl⟩ : ∃ i, k = i + 2 := ⟨k - 2, by omega⟩
  unfold idiomref15_AddMonths.f
  rw [RCheck_f _ _ _ _ (by omega)]
  by_cases h : okD y m d = true
  · rw [if_pos h]; simp only [Option.bind_some, if_true]
    have hn' : ¬ ((-119988 ≤ n ∧ n ≤ 119988) ∧ 0 ≤ 12 * (y - 1) + m - 1 + n ∧ 12 * (y - 1) + m - 1 + n < 119988) := fun e => hn ⟨h, e⟩
    rw [okD_iff] at h
    by_cases c1 : n > 120000
    · rw [if_pos c1]; simp [idiomref15_AddMonths.j0]
    · rw [if_neg c1]
      by_cases c2 : n < -120000
      · rw [show decide (n < -120000) = true by simpa using c2]; simp [idiomref15_AddMonths.j0]
      · rw [show decide (n < -120000) = false by simpa using c2]
        simp only [idiomref15_AddMonths.j0, Bool.false_eq_true, if_false]
        rw [w64 (x := y * 12) (by omega), w64 (x := y * 12 + m) (by omega), w64 (x := y * 12 + m - 1) (by omega), w64 (x := y * 12 + m - 1 + n) (by omega)]
        by_cases c3 : y * 12 + m - 1 + n < 12
        · rw [if_pos c3]; simp [idiomref15_AddMonths.j1]
        · rw [if_neg c3, show decide (y * 12 + m - 1 + n > 119999) = true by simp; omega]; simp [idiomref15_AddMonths.j1]
  · rw [if_neg h]; simp only [Option.bind_some]
    rw [if_neg (by decide)]; simp [idiomref15_AddMonths.j0]
theorem CivilMonths (y m d n : Int) : ∃ k, idiomlaw15_CivilMonths.f k y m d n = some true := by
  refine ⟨10, ?_⟩
  unfold idiomlaw15_CivilMonths.f
  by_cases h : okD y m d = true
  · by_cases hn : (-119988 ≤ n ∧ n ≤ 119988) ∧ 0 ≤ 12 * (y - 1) + m - 1 + n ∧ 12 * (y - 1) + m - 1 + n < 119988
    · rw [Add_yes h hn.1 hn.2.1 hn.2.2 10 (by omega), RAdd_yes h hn.1 hn.2.1 hn.2.2 10 (by omega), awake_f]; simp
    · rw [Add_no h hn 10 (by omega), RAdd_no (fun e => hn e.2) 10 (by omega), awake_f]; simp
  · rw [RAdd_no (fun e => h e.1) 10 (by omega), awake_f]
    unfold civil_AddMonths.f
    rw [Check_f, if_neg h]; simp
end Go.Proofs.YtjgabbhflnkbmaaDoor.Pl
