/- What the printed Week (the program's) comes to: the year and number of a day's week; conditions: rounds enough. -/
import Derived.Test.YtjgabbhflnkbmaaDoorPlBase
import Derived.Test.YtjgabbhflnkbmaaDoorPCivilx19
namespace Go.Proofs.YtjgabbhflnkbmaaDoor.Pl
open Go.RowKit Go.Proofs.YtjgabbhflnkbmaaDoorW.PrintWords Go.Proofs.YtjgabbhflnkbmaaDoor.PCivil Cal
set_option linter.unusedVariables false
/-- How many days of a year's first day's week lie in the year ahead; where the first week begins. -/
def bk (y f : Int) : Int := (wd (bg y) - f + 7) % 7
def op (y f l : Int) : Int := if 7 - bk y f ≥ l then bg y - bk y f else bg y - bk y f + 7
theorem wd_bd (n : Int) : 0 ≤ wd n ∧ wd n ≤ 6 := by unfold wd; omega
theorem bk_bd (y f : Int) : 0 ≤ bk y f ∧ bk y f ≤ 6 := by unfold bk; omega
theorem op_win (y f l : Int) (hl : 1 ≤ l ∧ l ≤ 7) : bg y - 7 + l ≤ op y f l ∧ op y f l ≤ bg y + l - 1 := by
  have := bk_bd y f
  unfold op; split <;> omega
theorem op_mod (y f l : Int) (hf : 0 ≤ f ∧ f ≤ 6) : (op y f l + 4) % 7 = f := by
  unfold op bk wd; split <;> omega
theorem op_step (y f l : Int) (hf : 0 ≤ f ∧ f ≤ 6) (hl : 1 ≤ l ∧ l ≤ 7) : op (y + 1) f l = op y f l + 364 ∨ op (y + 1) f l = op y f l + 371 := by
  have a := op_win y f l hl
  have b := op_win (y + 1) f l hl
  have c := op_mod y f l hf
  have d := op_mod (y + 1) f l hf
  have e := bg_succ y
  have g := yl_bd y
  omega
theorem op_mono (f l : Int) (hf : 0 ≤ f ∧ f ≤ 6) (hl : 1 ≤ l ∧ l ≤ 7) (a b : Int) (h : a < b) : op a f l < op b f l := by
  have x := op_win a f l hl
  have y := op_win b f l hl
  have z := bg_mono (a + 1) b (by omega)
  have e := bg_succ a
  have g := yl_bd a
  omega
/-- The year of the week of day number n, a day of the year Y. -/
def wy (Y n f l : Int) : Int := if op (Y + 1) f l ≤ n then Y + 1 else if op Y f l ≤ n then Y else Y - 1
theorem wy_bd (Y n f l : Int) : Y - 1 ≤ wy Y n f l ∧ wy Y n f l ≤ Y + 1 := by unfold wy; repeat' split <;> omega
theorem wy_at {Y n f l : Int} (hl : 1 ≤ l ∧ l ≤ 7) (h0 : bg Y ≤ n) (h1 : n < bg (Y + 1)) : op (wy Y n f l) f l ≤ n ∧ n < op (wy Y n f l + 1) f l := by
  have a := op_win (Y - 1) f l hl
  have b := op_win (Y + 2) f l hl
  have e1 := bg_succ (Y - 1)
  have e2 := bg_succ (Y + 1)
  have g1 := yl_bd (Y - 1)
  have g2 := yl_bd (Y + 1)
  rw [show Y - 1 + 1 = Y by omega] at e1
  rw [show Y + 1 + 1 = Y + 2 by omega] at e2
  unfold wy
  by_cases c1 : op (Y + 1) f l ≤ n
  · rw [if_pos c1]; exact ⟨c1, by rw [show Y + 1 + 1 = Y + 2 by omega]; omega⟩
  · rw [if_neg c1]
    by_cases c2 : op Y f l ≤ n
    · rw [if_pos c2]; exact ⟨c2, by omega⟩
    · rw [if_neg c2]; exact ⟨by omega, by rw [show Y - 1 + 1 = Y by omega]; omega⟩
theorem wy_of {Y n f l y : Int} (hf : 0 ≤ f ∧ f ≤ 6) (hl : 1 ≤ l ∧ l ≤ 7) (h0 : bg Y ≤ n) (h1 : n < bg (Y + 1)) (ha : op y f l ≤ n) (hb : n < op (y + 1) f l) : y = wy Y n f l := by
  obtain ⟨a, b⟩ := wy_at (f := f) hl h0 h1
  rcases Int.lt_trichotomy y (wy Y n f l) with c | c | c
  · rcases Int.lt_or_eq_of_le (show y + 1 ≤ wy Y n f l by omega) with d | d
    · have := op_mono f l hf hl _ _ d; omega
    · rw [d] at hb; omega
  · exact c
  · rcases Int.lt_or_eq_of_le (show wy Y n f l + 1 ≤ y by omega) with d | d
    · have := op_mono f l hf hl _ _ d; omega
    · rw [d] at b; omega
/-- The week's number. -/
def wn (Y n f l : Int) : Int := (n - op (wy Y n f l) f l) / 7 + 1

theorem opens_f (y f l : Int) (hy : 0 ≤ y ∧ y ≤ 10001) (hf : 0 ≤ f ∧ f ≤ 6) (hl : 1 ≤ l ∧ l ≤ 7) : civil_opens.f y f l = some (op y f l) := by
  have hb := bg_bd y hy.1 hy.2
  have hk := bk_bd y f
  have hw := wd_bd (bg y)
  unfold civil_opens.f
  rw [begin_f y hy.1 hy.2]; simp only [Option.bind_some]
  rw [weekday_f _ (by omega)]; simp only [Option.bind_some]
  rw [w64 (x := wd (bg y) - f) (by omega), w64 (x := wd (bg y) - f + 7) (by omega), Int.tmod_eq_emod_of_nonneg (by omega), show (wd (bg y) - f + 7) % 7 = bk y f from rfl, w64 (x := 7 - bk y f) (by omega), w64 (x := bg y - bk y f) (by omega), w64 (x := bg y - bk y f + 7) (by omega)]
  unfold op
  split <;> rfl
theorem Week_l0 (Y n f l : Int) (hY : 1 ≤ Y ∧ Y ≤ 9999) (hf : 0 ≤ f ∧ f ≤ 6) (hl : 1 ≤ l ∧ l ≤ 7) (h0 : bg Y ≤ n) (h1 : n < bg (Y + 1)) : ∀ (j : Nat) (k : Nat) (y : Int), wy Y n f l ≤ y → y ≤ Y + 1 → (y - wy Y n f l).toNat = j → j < k →
    civil_Week.l0 k f l n y = some (wy Y n f l, wn Y n f l, 0) := by
  obtain ⟨a, b⟩ := wy_at (f := f) hl h0 h1
  have hw := wy_bd Y n f l
  have hbY := bg_bd Y (by omega) (by omega)
  have hbY1 := bg_bd (Y + 1) (by omega) (by omega)
  intro j
  induction j with
  | zero =>
    intro k y h2 h3 hj hk
    obtain ⟨k, rfl⟩ : ∃ i, k = i + 1 := ⟨k - 1, by omega⟩
    obtain rfl : y = wy Y n f l := by omega
    have hb2 := bg_bd (wy Y n f l) (by omega) (by omega)
    have hop := op_win (wy Y n f l) f l hl
    simp only [civil_Week.l0]; rw [opens_f _ f l (by omega) hf hl]
    simp only [Option.bind_some]; rw [if_pos a, w64 (x := n - op (wy Y n f l) f l) (by omega), Int.tdiv_eq_ediv_of_nonneg (by omega), w64 (x := (n - op (wy Y n f l) f l) / 7) (by omega), w64 (by omega)]
    rfl
  | succ j ih =>
    intro k y h2 h3 hj hk
    obtain ⟨k, rfl⟩ : ∃ i, k = i + 1 := ⟨k - 1, by omega⟩
    have hne : ¬ op y f l ≤ n := by
      intro c
      rcases Int.lt_or_eq_of_le (show wy Y n f l + 1 ≤ y by omega) with d | d
      · have := op_mono f l hf hl _ _ d; omega
      · rw [d] at b; omega
    simp only [civil_Week.l0]; rw [opens_f _ f l (by omega) hf hl]
    simp only [Option.bind_some]; rw [if_neg hne, w64 (x := y - 1) (by omega)]
    exact ih k (y - 1) (by omega) (by omega) (by omega) (by omega)
theorem Week_args {y m d f l : Int} (hd : okD y m d = true) (k : Nat) : civil_Week.f k y m d f l = civil_Week.j0 k f l (!decide (0 ≤ f ∧ f ≤ 6 ∧ 1 ≤ l ∧ l ≤ 7)) y m d := by
  unfold civil_Week.f
  rw [Check_f, if_pos hd]; simp only [Option.bind_some, if_true]
  by_cases c1 : f < 0
  · rw [if_pos c1, show decide (0 ≤ f ∧ f ≤ 6 ∧ 1 ≤ l ∧ l ≤ 7) = false by simp; omega]; rfl
  rw [if_neg c1]
  by_cases c2 : f > 6
  · rw [if_pos c2, show decide (0 ≤ f ∧ f ≤ 6 ∧ 1 ≤ l ∧ l ≤ 7) = false by simp; omega]; rfl
  rw [if_neg c2]
  by_cases c3 : l < 1
  · rw [if_pos c3, show decide (0 ≤ f ∧ f ≤ 6 ∧ 1 ≤ l ∧ l ≤ 7) = false by simp; omega]; rfl
  rw [if_neg c3]
  by_cases c4 : l > 7
  · rw [show decide (l > 7) = true by simpa using c4, show decide (0 ≤ f ∧ f ≤ 6 ∧ 1 ≤ l ∧ l ≤ 7) = false by simp; omega]; rfl
  · rw [show decide (l > 7) = false by simpa using c4, show decide (0 ≤ f ∧ f ≤ 6 ∧ 1 ≤ l ∧ l ≤ 7) = true by simp; omega]; rfl
theorem Week_yes {y m d f l : Int} (hd : okD y m d = true) (hf : 0 ≤ f ∧ f ≤ 6) (hl : 1 ≤ l ∧ l ≤ 7) (k : Nat) (hk : 10 ≤ k) :
    civil_Week.f k y m d f l = some (wy y (nm y m d) f l, wn y (nm y m d) f l, 0) := by
  obtain ⟨k, rfl⟩ : ∃ i, k = i + 1 := ⟨k - 1, by omega⟩
  have hb := nm_bd hd
  have hg := okD_iff.1 hd
  have hw := wy_bd y (nm y m d) f l
  rw [Week_args hd, show decide (0 ≤ f ∧ f ≤ 6 ∧ 1 ≤ l ∧ l ≤ 7) = true by simp; omega]
  simp only [civil_Week.j0, Bool.not_true, Bool.false_eq_true, if_false]
  rw [days_f hd]; simp only [Option.bind_some]
  rw [w64 (x := y + 1) (by omega)]
  exact Week_l0 y (nm y m d) f l ⟨hg.1, hg.2.1⟩ hf hl hb.1 hb.2.1 _ k (y + 1) (by omega) (by omega) rfl (by omega)
theorem Week_arg {y m d f l : Int} (hd : okD y m d = true) (h : ¬ ((0 ≤ f ∧ f ≤ 6) ∧ 1 ≤ l ∧ l ≤ 7)) (k : Nat) (hk : 1 ≤ k) : civil_Week.f k y m d f l = some (0, 0, 1) := by
  obtain ⟨k, rfl⟩ : ∃ i, k = i + 1 := ⟨k - 1, by omega⟩
  rw [Week_args hd, show decide (0 ≤ f ∧ f ≤ 6 ∧ 1 ≤ l ∧ l ≤ 7) = false by simp; omega]
  simp [civil_Week.j0]
theorem Week_date {y m d : Int} (f l : Int) (hd : ¬ okD y m d = true) (k : Nat) : civil_Week.f k y m d f l = some (0, 0, 150) := by
  unfold civil_Week.f
  rw [Check_f, if_neg hd]; simp
end Go.Proofs.YtjgabbhflnkbmaaDoor.Pl
