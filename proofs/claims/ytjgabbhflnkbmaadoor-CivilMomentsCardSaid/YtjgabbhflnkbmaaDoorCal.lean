/- The plain arithmetic of the proleptic Gregorian calendar that the civil proofs use: lengths of months and years, the number of a day, weeks. No Go, no memory; no condition beyond those each lemma states. -/
namespace Go.Proofs.YtjgabbhflnkbmaaDoor.Cal

/-- A leap year. -/
def lp (y : Int) : Bool := decide (y % 4 = 0 ∧ (y % 100 ≠ 0 ∨ y % 400 = 0))
def yl (y : Int) : Int := if lp y = true then 366 else 365
/-- The length of a month. -/
def ml (y m : Int) : Int := if m = 2 then (if lp y = true then 29 else 28) else if m = 4 ∨ m = 6 ∨ m = 9 ∨ m = 11 then 30 else 31
/-- The number of a year's first day. -/
def bg (y : Int) : Int := -719162 - 146097 + 365 * (y + 399) + (y + 399) / 4 - (y + 399) / 100 + (y + 399) / 400
/-- The table: days ahead of a month in a plain year. -/
def tb (m : Int) : Int := if m ≤ 1 then 0 else if m = 2 then 31 else if m = 3 then 59 else if m = 4 then 90 else if m = 5 then 120 else if m = 6 then 151 else if m = 7 then 181 else if m = 8 then 212 else if m = 9 then 243 else if m = 10 then 273 else if m = 11 then 304 else if m = 12 then 334 else 365
def lq (y m : Int) : Int := if 2 < m ∧ lp y = true then 1 else 0
/-- Days ahead of a month in its year. -/
def cm (y m : Int) : Int := tb m + lq y m
/-- The day of the year, the day's number. -/
def yd (y m d : Int) : Int := cm y m + d
def nm (y m d : Int) : Int := bg y + yd y m d - 1
def okD (y m d : Int) : Bool := decide (1 ≤ y ∧ y ≤ 9999 ∧ 1 ≤ m ∧ m ≤ 12 ∧ 1 ≤ d ∧ d ≤ ml y m)

theorem okD_iff {y m d : Int} : okD y m d = true ↔ (1 ≤ y ∧ y ≤ 9999 ∧ 1 ≤ m ∧ m ≤ 12 ∧ 1 ≤ d ∧ d ≤ ml y m) := by unfold okD; exact decide_eq_true_iff
theorem lp_iff {y : Int} : lp y = true ↔ (y % 4 = 0 ∧ (y % 100 ≠ 0 ∨ y % 400 = 0)) := by unfold lp; exact decide_eq_true_iff

theorem yl_bd (y : Int) : 365 ≤ yl y ∧ yl y ≤ 366 := by unfold yl; split <;> omega
theorem ml_bd (y m : Int) : 28 ≤ ml y m ∧ ml y m ≤ 31 := by unfold ml; split <;> (try split) <;> omega
theorem bg_succ (y : Int) : bg (y + 1) = bg y + yl y := by
  unfold yl
  by_cases h1 : lp y = true
  · rw [if_pos h1]; rw [lp_iff] at h1; unfold bg; omega
  · rw [if_neg h1]; rw [lp_iff] at h1; unfold bg; omega
theorem bg_mono (a b : Int) (h : a ≤ b) : bg a ≤ bg b := by
  by_cases e : a = b
  · subst e; omega
  · unfold bg; omega
theorem bg_bd (y : Int) (h0 : 0 ≤ y) (h1 : y ≤ 10001) : -719528 ≤ bg y ∧ bg y ≤ 2933263 := by unfold bg; omega
theorem bg_one : bg 1 = -719162 := by decide
theorem bg_zero : bg 0 = -719162 - 366 := by decide
theorem bg_last : bg 10000 = 2932897 := by decide
theorem bg_top (y : Int) (h : bg y ≤ 2932896) : y ≤ 9999 := by
  by_cases e : 10000 ≤ y
  · have := bg_mono 10000 y e; rw [bg_last] at this; omega
  · omega
/-- The program's first guess of a year. -/
theorem bg_guess (n : Int) (h0 : -719162 ≤ n) (h1 : n ≤ 2932896) : bg ((n + 719162) / 366 + 1) ≤ n ∧ 1 ≤ (n + 719162) / 366 + 1 ∧ (n + 719162) / 366 + 1 ≤ 9999 := by
  unfold bg; omega

theorem ml_cases (y m : Int) (h1 : 1 ≤ m) (h2 : m ≤ 12) : tb (m + 1) + lq y (m + 1) = tb m + lq y m + ml y m := by
  have : m = 1 ∨ m = 2 ∨ m = 3 ∨ m = 4 ∨ m = 5 ∨ m = 6 ∨ m = 7 ∨ m = 8 ∨ m = 9 ∨ m = 10 ∨ m = 11 ∨ m = 12 := by omega
  by_cases hl : lp y = true
  · rcases this with rfl | rfl | rfl | rfl | rfl | rfl | rfl | rfl | rfl | rfl | rfl | rfl <;> simp [tb, lq, ml, hl]
  · rcases this with rfl | rfl | rfl | rfl | rfl | rfl | rfl | rfl | rfl | rfl | rfl | rfl <;> simp [tb, lq, ml, hl]
theorem cm_succ (y m : Int) (h1 : 1 ≤ m) (h2 : m ≤ 12) : cm y (m + 1) = cm y m + ml y m := ml_cases y m h1 h2
theorem cm_one (y : Int) : cm y 1 = 0 := by simp [cm, tb, lq]
theorem cm_end (y : Int) : cm y 13 = yl y := by
  unfold yl
  by_cases hl : lp y = true <;> simp [cm, tb, lq, hl]
theorem cm_last (y : Int) : cm y 12 + ml y 12 = yl y := by
  rw [← cm_end, show (13 : Int) = 12 + 1 from rfl, cm_succ y 12 (by omega) (by omega)]
theorem tb_bd (m : Int) : 0 ≤ tb m ∧ tb m ≤ 365 := by unfold tb; repeat' split <;> omega
theorem lq_bd (y m : Int) : 0 ≤ lq y m ∧ lq y m ≤ 1 := by unfold lq; split <;> omega
theorem cm_bd (y m : Int) : 0 ≤ cm y m ∧ cm y m ≤ 366 := by have := tb_bd m; have := lq_bd y m; unfold cm; omega
theorem cm_mono (y a b : Int) (h0 : 1 ≤ a) (h : a < b) (h1 : b ≤ 13) : cm y a + ml y a ≤ cm y b := by
  rw [← cm_succ y a h0 (by omega)]
  have : ∀ (k : Nat) (c : Int), 1 ≤ c → c + k ≤ 13 → cm y c ≤ cm y (c + k) := by
    intro k
    induction k with
    | zero => intro c _ _; simp
    | succ k ih =>
      intro c h1 h2
      have := ih c h1 (by omega)
      have e := cm_succ y (c + k) (by omega) (by omega)
      have := ml_bd y (c + k)
      rw [show c + ((k + 1 : Nat) : Int) = c + k + 1 by omega, e]; omega
  have h := this (b - (a + 1)).toNat (a + 1) (by omega) (by omega)
  rw [show a + 1 + ((b - (a + 1)).toNat : Int) = b by omega] at h
  exact h

theorem yd_bd {y m d : Int} (h : okD y m d = true) : 1 ≤ yd y m d ∧ yd y m d ≤ yl y := by
  rw [okD_iff] at h
  obtain ⟨_, _, h3, h4, h5, h6⟩ := h
  have := cm_bd y m
  have := cm_mono y m 13 h3 (by omega) (by omega)
  rw [cm_end] at this
  unfold yd; omega
theorem nm_bd {y m d : Int} (h : okD y m d = true) : bg y ≤ nm y m d ∧ nm y m d < bg (y + 1) ∧ -719162 ≤ nm y m d ∧ nm y m d ≤ 2932896 := by
  have hy := yd_bd h
  rw [okD_iff] at h
  have := bg_succ y
  have a := bg_mono 1 y (by omega); rw [bg_one] at a
  have b := bg_mono (y + 1) 10000 (by omega); rw [bg_last] at b
  unfold nm; omega
/-- Two days of one number are one. -/
theorem nm_inj {y m d y' m' d' : Int} (h : okD y m d = true) (h' : okD y' m' d' = true) (e : nm y m d = nm y' m' d') : y = y' ∧ m = m' ∧ d = d' := by
  have b := nm_bd h
  have b' := nm_bd h'
  rw [okD_iff] at h h'
  have hy : y = y' := by
    rcases Int.lt_trichotomy y y' with l | l | l
    · have := bg_mono (y + 1) y' (by omega); omega
    · exact l
    · have := bg_mono (y' + 1) y (by omega); omega
  subst hy
  have e2 : cm y m + d = cm y m' + d' := by unfold nm yd at e; omega
  have hm : m = m' := by
    rcases Int.lt_trichotomy m m' with l | l | l
    · have := cm_mono y m m' (by omega) l (by omega); omega
    · exact l
    · have := cm_mono y m' m (by omega) l (by omega); omega
  subst hm
  exact ⟨rfl, rfl, by omega⟩
end Go.Proofs.YtjgabbhflnkbmaaDoor.Cal
