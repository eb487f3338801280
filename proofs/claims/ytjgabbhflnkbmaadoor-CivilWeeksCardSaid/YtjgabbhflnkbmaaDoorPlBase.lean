/- What the printed functions on days come to, in the calendar's plain words: lengths, numbers of days, of the year; conditions: a day that there is, rounds enough. -/
import Derived.Test.YtjgabbhflnkbmaaDoorCal
import Derived.Test.YtjgabbhflnkbmaaDoorPCivilx9
namespace Go.Proofs.YtjgabbhflnkbmaaDoor.Pl
open Go.RowKit Go.Proofs.YtjgabbhflnkbmaaDoorW.PrintWords Go.Proofs.YtjgabbhflnkbmaaDoor.PCivil Cal

theorem w64 {x : Int} (h : -9223372036854775808 ≤ x ∧ x ≤ 9223372036854775807) : wrap64 x = x := by unfold wrap64; omega

theorem leap_f (y : Int) (h : 0 ≤ y) : civil_leap.f y = some (lp y) := by
  have e4 := Int.tmod_eq_emod_of_nonneg (b := 4) h
  have e1 := Int.tmod_eq_emod_of_nonneg (b := 100) h
  have e2 := Int.tmod_eq_emod_of_nonneg (b := 400) h
  unfold civil_leap.f lp
  rw [e4, e1, e2]
  by_cases h4 : y % 4 = 0 <;> by_cases h1 : y % 100 = 0 <;> by_cases h2 : y % 400 = 0 <;> simp [h4, h1, h2]
theorem Leap_f (y : Int) (h : 0 ≤ y) : idiomref15_Leap.f y = some (lp y) := by
  have e4 := Int.tmod_eq_emod_of_nonneg (b := 4) h
  have e1 := Int.tmod_eq_emod_of_nonneg (b := 100) h
  have e2 := Int.tmod_eq_emod_of_nonneg (b := 400) h
  unfold idiomref15_Leap.f lp
  rw [e4, e1, e2]
  by_cases h4 : y % 4 = 0 <;> by_cases h1 : y % 100 = 0 <;> by_cases h2 : y % 400 = 0 <;> simp [h4, h1, h2] <;> omega
theorem length_f (y m : Int) (h : 0 ≤ y) : civil_length.f y m = some (ml y m) := by
  unfold civil_length.f ml
  rw [leap_f y h]
  simp only [Option.bind_some]
  split
  · split <;> rfl
  · repeat' (first | omega | rfl | split)
theorem Month_f (k : Nat) (y m : Int) (hk : 1 ≤ k) (h : 0 ≤ y) : idiomref15_Month.f k y m = some (ml y m) := by
  obtain ⟨k, rfl⟩ : ∃ j, k = j + 1 := ⟨k - 1, by omega⟩
  unfold idiomref15_Month.f ml
  rw [Leap_f y h]
  simp only [Option.bind_some, idiomref15_Month.j0]
  split
  · by_cases hl : lp y = true <;> simp [hl]
  · repeat' (first | omega | rfl | split)
    all_goals simp_all
theorem Check_f (y m d : Int) : civil_Check.f y m d = some (if okD y m d = true then 0 else 150) := by
  unfold civil_Check.f
  by_cases h : okD y m d = true
  · rw [if_pos h]; rw [okD_iff] at h
    rw [if_neg (by omega), if_neg (by omega), if_neg (by omega), if_neg (by omega), if_neg (by omega), length_f y m (by omega)]
    simp only [Option.bind_some]; rw [if_neg (by omega)]
  · rw [if_neg h]; rw [okD_iff] at h
    repeat' (first | rfl | split)
    rename_i h1 h2 h3 h4 h5
    rw [length_f y m (by omega)]
    simp only [Option.bind_some]; rw [if_pos (by omega)]
theorem RCheck_f (k : Nat) (y m d : Int) (hk : 1 ≤ k) : idiomref15_Check.f k y m d = some (if okD y m d = true then 0 else 150) := by
  unfold idiomref15_Check.f
  by_cases h : okD y m d = true
  · rw [if_pos h]; rw [okD_iff] at h
    rw [if_neg (by omega), if_neg (by omega), if_neg (by omega), if_neg (by omega), if_neg (by omega), Month_f k y m hk (by omega)]
    simp only [Option.bind_some]; rw [if_neg (by omega)]
  · rw [if_neg h]; rw [okD_iff] at h
    repeat' (first | rfl | split)
    rename_i h1 h2 h3 h4 h5
    rw [Month_f k y m hk (by omega)]
    simp only [Option.bind_some]; rw [if_pos (by omega)]
theorem begin_f (y : Int) (h0 : 0 ≤ y) (h1 : y ≤ 10001) : civil_begin.f y = some (bg y) := by
  unfold civil_begin.f bg
  rw [w64 (x := y + 399) (by omega)]
  rw [Int.tdiv_eq_ediv_of_nonneg (by omega), Int.tdiv_eq_ediv_of_nonneg (by omega), Int.tdiv_eq_ediv_of_nonneg (by omega)]
  congr 1
  unfold wrap64; omega
theorem tabv_tb (m : Int) (h1 : 1 ≤ m) (h2 : m ≤ 12) : tabv m.toNat = tb m := by
  have : m = 1 ∨ m = 2 ∨ m = 3 ∨ m = 4 ∨ m = 5 ∨ m = 6 ∨ m = 7 ∨ m = 8 ∨ m = 9 ∨ m = 10 ∨ m = 11 ∨ m = 12 := by omega
  rcases this with rfl | rfl | rfl | rfl | rfl | rfl | rfl | rfl | rfl | rfl | rfl | rfl <;> decide
theorem yearDay_f {y m d : Int} (h : okD y m d = true) : civil_yearDay.f y m d = some (yd y m d) := by
  have hb := yd_bd h
  have hy := yl_bd y
  rw [okD_iff] at h
  unfold civil_yearDay.f
  rw [if_pos (by omega), if_pos (by omega), leap_f y (by omega), tabv_tb m (by omega) (by omega)]
  simp only [Option.bind_some]
  have ht := tb_bd m
  have hm := ml_bd y m
  unfold yd cm lq
  by_cases h2 : m > 2
  · by_cases hl : lp y = true
    · rw [if_pos h2, if_pos hl, if_pos ⟨by omega, hl⟩, w64 (x := tb m + d) (by omega), w64 (by omega)]; congr 1; omega
    · rw [if_pos h2, if_neg hl, if_neg (by simp [hl]), w64 (x := tb m + d) (by omega)]; congr 1; omega
  · rw [if_neg h2, if_neg (by omega), w64 (x := tb m + d) (by omega)]; congr 1; omega
theorem days_f {y m d : Int} (h : okD y m d = true) : civil_days.f y m d = some (nm y m d) := by
  have hb := nm_bd h
  have hd := yd_bd h
  have hy := yl_bd y
  have hg : okD y m d = true := h
  rw [okD_iff] at hg
  have hbb := bg_bd y (by omega) (by omega)
  unfold civil_days.f
  rw [begin_f y (by omega) (by omega), yearDay_f h]
  simp only [Option.bind_some]
  rw [w64 (x := bg y + yd y m d) (by omega), w64 (by omega)]
  rfl
theorem Days_yes {y m d : Int} (h : okD y m d = true) : civil_Days.f y m d = some (nm y m d, 0) := by
  unfold civil_Days.f
  rw [Check_f, if_pos h, days_f h]; rfl
theorem Days_no {y m d : Int} (h : ¬ okD y m d = true) : civil_Days.f y m d = some (0, 150) := by
  unfold civil_Days.f
  rw [Check_f, if_neg h]; rfl

theorem year_f (y : Int) (h : 0 ≤ y) : idiomref15_year.f y = some (yl y) := by
  unfold idiomref15_year.f yl
  rw [Leap_f y h]
  simp only [Option.bind_some]
  split <;> rfl
theorem ahead_l (y : Int) (hy : y ≤ 10001) : ∀ (n : Nat) (k : Nat) (i : Int), 1 ≤ i → i ≤ y → (y - i).toNat = n → n < k → idiomref15_ahead.l0 k y (bg i + 719162) i = some (bg y + 719162) := by
  intro n
  induction n with
  | zero =>
    intro k i h1 h2 hn hk
    obtain ⟨k, rfl⟩ : ∃ j, k = j + 1 := ⟨k - 1, by omega⟩
    obtain rfl : i = y := by omega
    simp only [idiomref15_ahead.l0]; rw [if_neg (by omega)]
  | succ n ih =>
    intro k i h1 h2 hn hk
    obtain ⟨k, rfl⟩ : ∃ j, k = j + 1 := ⟨k - 1, by omega⟩
    have hb := bg_bd i (by omega) (by omega)
    have hy1 := yl_bd i
    simp only [idiomref15_ahead.l0]; rw [if_pos (by omega), year_f i (by omega)]
    simp only [Option.bind_some]
    rw [w64 (x := i + 1) (by omega), w64 (x := bg i + 719162 + yl i) (by omega), show bg i + 719162 + yl i = bg (i + 1) + 719162 by rw [bg_succ]; omega]
    exact ih k (i + 1) (by omega) (by omega) (by omega) (by omega)
theorem ahead_f (k : Nat) (y : Int) (h1 : 1 ≤ y) (h2 : y ≤ 10001) (hk : 10001 ≤ k) : idiomref15_ahead.f k y = some (bg y + 719162) := by
  have := ahead_l y h2 (y - 1).toNat k 1 (by omega) h1 rfl (by omega)
  rw [bg_one] at this
  exact this
theorem ryearDay_l (y m d : Int) (hy : 0 ≤ y) (hm : m ≤ 12) (hd : -1000 ≤ d ∧ d ≤ 1000) : ∀ (n : Nat) (k : Nat) (i : Int), 1 ≤ i → i ≤ m → (m - i).toNat = n → n + 1 < k → idiomref15_yearDay.l0 k (d + cm y i) i y m d = some (d + cm y m) := by
  intro n
  induction n with
  | zero =>
    intro k i h1 h2 hn hk
    obtain ⟨k, rfl⟩ : ∃ j, k = j + 1 := ⟨k - 1, by omega⟩
    obtain rfl : i = m := by omega
    simp only [idiomref15_yearDay.l0]; rw [if_neg (by omega)]
  | succ n ih =>
    intro k i h1 h2 hn hk
    obtain ⟨k, rfl⟩ : ∃ j, k = j + 1 := ⟨k - 1, by omega⟩
    have hb := cm_bd y i
    have hl := ml_bd y i
    simp only [idiomref15_yearDay.l0]; rw [if_pos (by omega), Month_f k y i (by omega) hy]
    simp only [Option.bind_some]
    rw [w64 (x := i + 1) (by omega), w64 (x := d + cm y i + ml y i) (by omega), show d + cm y i + ml y i = d + cm y (i + 1) by rw [cm_succ y i h1 (by omega)]; omega]
    exact ih k (i + 1) (by omega) (by omega) (by omega) (by omega)
theorem ryearDay_f (k : Nat) {y m d : Int} (h : okD y m d = true) (hk : 20 ≤ k) : idiomref15_yearDay.f k y m d = some (yd y m d) := by
  rw [okD_iff] at h
  have hm := ml_bd y m
  have := ryearDay_l y m d (by omega) (by omega) (by omega) (m - 1).toNat k 1 (by omega) (by omega) rfl (by omega)
  rw [cm_one, Int.add_zero, Int.add_comm] at this
  exact this
theorem rdays_f (k : Nat) {y m d : Int} (h : okD y m d = true) (hk : 10001 ≤ k) : idiomref15_days.f k y m d = some (nm y m d) := by
  have hb := nm_bd h
  have hd := yd_bd h
  have hy := yl_bd y
  have hg : okD y m d = true := h
  rw [okD_iff] at hg
  have hbb := bg_bd y (by omega) (by omega)
  unfold idiomref15_days.f
  rw [ahead_f k y (by omega) (by omega) hk, ryearDay_f k h (by omega)]
  simp only [Option.bind_some]
  rw [w64 (x := bg y + 719162 + yd y m d) (by omega), w64 (x := bg y + 719162 + yd y m d - 1) (by omega), w64 (by omega)]
  congr 1; unfold nm; omega
theorem RDays_yes (k : Nat) {y m d : Int} (h : okD y m d = true) (hk : 10001 ≤ k) : idiomref15_Days.f k y m d = some (nm y m d, 0) := by
  unfold idiomref15_Days.f
  rw [RCheck_f k y m d (by omega), if_pos h, rdays_f k h hk]; rfl
theorem RDays_no (k : Nat) {y m d : Int} (h : ¬ okD y m d = true) (hk : 10001 ≤ k) : idiomref15_Days.f k y m d = some (0, 150) := by
  unfold idiomref15_Days.f
  rw [RCheck_f k y m d (by omega), if_neg h]; rfl

/-- The day of the week of a day's number. -/
def wd (n : Int) : Int := (n + 4) % 7
theorem wd_go (n : Int) (h : -100000000 ≤ n ∧ n ≤ 100000000) : Int.tmod (wrap64 ((Int.tmod (wrap64 (n + 4)) 7) + 7)) 7 = wd n := by
  have h1 := Int.tmod_lt_of_pos (n + 4) (b := 7) (by omega)
  have h2 := Int.lt_tmod_of_pos (n + 4) (b := 7) (by omega)
  have h3 := Int.tmod_add_mul_tdiv (n + 4) 7
  rw [w64 (x := n + 4) (by omega), w64 (by omega), Int.tmod_eq_emod_of_nonneg (by omega)]
  unfold wd; omega
theorem weekday_f (n : Int) (h : -100000000 ≤ n ∧ n ≤ 100000000) : civil_weekday.f n = some (wd n) := by unfold civil_weekday.f; rw [wd_go n h]
theorem rweekday_f (n : Int) (h : -100000000 ≤ n ∧ n ≤ 100000000) : idiomref15_weekday.f n = some (wd n) := by unfold idiomref15_weekday.f; rw [wd_go n h]
theorem Weekday_yes {y m d : Int} (h : okD y m d = true) : civil_Weekday.f y m d = some (wd (nm y m d), 0) := by
  have hb := nm_bd h
  unfold civil_Weekday.f
  rw [Check_f, if_pos h, days_f h]; simp only [Option.bind_some, if_true]; rw [weekday_f _ (by omega)]; rfl
theorem Weekday_no {y m d : Int} (h : ¬ okD y m d = true) : civil_Weekday.f y m d = some (0, 150) := by
  unfold civil_Weekday.f
  rw [Check_f, if_neg h]; rfl
theorem RWeekday_yes (k : Nat) {y m d : Int} (h : okD y m d = true) (hk : 10001 ≤ k) : idiomref15_Weekday.f k y m d = some (wd (nm y m d), 0) := by
  have hb := nm_bd h
  unfold idiomref15_Weekday.f
  rw [RCheck_f k y m d (by omega), if_pos h, rdays_f k h hk]; simp only [Option.bind_some, if_true]; rw [rweekday_f _ (by omega)]; rfl
theorem RWeekday_no (k : Nat) {y m d : Int} (h : ¬ okD y m d = true) (hk : 10001 ≤ k) : idiomref15_Weekday.f k y m d = some (0, 150) := by
  unfold idiomref15_Weekday.f
  rw [RCheck_f k y m d (by omega), if_neg h]; rfl
theorem awake_f : idiomlaw15_awake.f = some true := by
  have h : okD 2024 2 29 = true := by decide
  have e : nm 2024 2 29 = 19782 := by decide
  unfold idiomlaw15_awake.f
  rw [Days_yes h, e]; rfl
end Go.Proofs.YtjgabbhflnkbmaaDoor.Pl
