/- What the document's printed Week comes to; conditions: rounds enough. -/
import Derived.Test.YtjgabbhflnkbmaaDoorPlWeek
import Derived.Test.YtjgabbhflnkbmaaDoorPCivilx20
namespace Go.Proofs.YtjgabbhflnkbmaaDoor.Pl
open Go.RowKit Go.Proofs.YtjgabbhflnkbmaaDoorW.PrintWords Go.Proofs.YtjgabbhflnkbmaaDoor.PCivil Cal
set_option linter.unusedVariables false
theorem begins_f (k : Nat) (y f l : Int) (hk : 10001 ≤ k) (hy : 1 ≤ y ∧ y ≤ 10001) (hf : 0 ≤ f ∧ f ≤ 6) (hl : 1 ≤ l ∧ l ≤ 7) : idiomref15_begins.f k y f l = some (op y f l) := by
  have hb := bg_bd y (by omega) hy.2
  have hkk := bk_bd y f
  have hw := wd_bd (bg y)
  unfold idiomref15_begins.f
  rw [ahead_f k y hy.1 hy.2 hk]; simp only [Option.bind_some]
  rw [show bg y + 719162 - 719162 = bg y by omega, w64 (x := bg y) (by omega), rweekday_f _ (by omega)]; simp only [Option.bind_some]
  rw [w64 (x := wd (bg y) - f) (by omega), w64 (x := wd (bg y) - f + 7) (by omega), Int.tmod_eq_emod_of_nonneg (by omega), show (wd (bg y) - f + 7) % 7 = bk y f from rfl, w64 (x := 7 - bk y f) (by omega), w64 (x := bg y - bk y f) (by omega), w64 (x := bg y - bk y f + 7) (by omega)]
  unfold op
  split <;> rfl
theorem quo_f (n o : Int) (h0 : o ≤ n) (h1 : -100000000 ≤ o) (h2 : n ≤ 100000000) : wrap64 (wrap64 (Int.tdiv (wrap64 (n - o)) 7) + 1) = (n - o) / 7 + 1 := by
  rw [w64 (x := n - o) (by omega), Int.tdiv_eq_ediv_of_nonneg (by omega), w64 (x := (n - o) / 7) (by omega), w64 (by omega)]
theorem RWeek_l0 (Y n f l : Int) (hY : 1 ≤ Y ∧ Y ≤ 9999) (hf : 0 ≤ f ∧ f ≤ 6) (hl : 1 ≤ l ∧ l ≤ 7) (h0 : bg Y ≤ n) (h1 : n < bg (Y + 1)) : ∀ (j : Nat) (k : Nat) (y : Int), wy Y n f l ≤ y → 1 ≤ y → y ≤ Y + 1 → (y - wy Y n f l).toNat = j → j + 10001 < k →
    idiomref15_Week.l0 k f l n y (op y f l) = some (wy Y n f l, wn Y n f l, 0) := by
  obtain ⟨a, b⟩ := wy_at (f := f) hl h0 h1
  have hw := wy_bd Y n f l
  have hbY := bg_bd Y (by omega) (by omega)
  have hbY1 := bg_bd (Y + 1) (by omega) (by omega)
  have hb2 := bg_bd (wy Y n f l) (by omega) (by omega)
  have hop := op_win (wy Y n f l) f l hl
  intro j
  induction j with
  | zero =>
    intro k y h2 hy h3 hj hk
    obtain ⟨k, rfl⟩ : ∃ i, k = i + 1 := ⟨k - 1, by omega⟩
    obtain rfl : y = wy Y n f l := by omega
    simp only [idiomref15_Week.l0]; rw [if_neg (by omega), quo_f _ _ a (by omega) (by omega)]
    rfl
  | succ j ih =>
    intro k y h2 hy h3 hj hk
    obtain ⟨k, rfl⟩ : ∃ i, k = i + 1 := ⟨k - 1, by omega⟩
    have hne : op y f l > n := by
      rcases Int.lt_or_eq_of_le (show wy Y n f l + 1 ≤ y by omega) with d | d
      · have := op_mono f l hf hl _ _ d; omega
      · rw [d] at b; omega
    simp only [idiomref15_Week.l0]; rw [if_pos hne, w64 (x := y - 1) (by omega)]
    by_cases c : y - 1 = 0
    · rw [if_pos c]
      have hz : wy Y n f l = 0 := by omega
      have hk0 := bk_bd 0 f
      have hw0 := wd_bd (-719528)
      have e0 : bk 0 f = (wd (-719528) - f + 7) % 7 := by unfold bk; rw [bg_zero]; rfl
      rw [rweekday_f _ (by omega)]; simp only [Option.bind_some]
      rw [w64 (x := wd (-719528) - f) (by omega), w64 (x := wd (-719528) - f + 7) (by omega), Int.tmod_eq_emod_of_nonneg (by omega), ← e0, w64 (x := 7 - bk 0 f) (by omega), w64 (x := -719528 - bk 0 f) (by omega), w64 (x := -719528 - bk 0 f + 7) (by omega)]
      rw [c]
      unfold wn
      rw [hz] at a ⊢
      by_cases c2 : 7 - bk 0 f < l
      · have eo : op 0 f l = -719528 - bk 0 f + 7 := by unfold op; rw [if_neg (by omega), bg_zero]; omega
        rw [if_pos c2, ← eo, quo_f _ _ a (by omega) (by omega)]
      · have eo : op 0 f l = -719528 - bk 0 f := by unfold op; rw [if_pos (by omega), bg_zero]; omega
        rw [if_neg c2, ← eo, quo_f _ _ a (by omega) (by omega)]
    · rw [if_neg c, begins_f k (y - 1) f l (by omega) (by omega) hf hl]; simp only [Option.bind_some]
      exact ih k (y - 1) (by omega) (by omega) (by omega) (by omega) (by omega)
theorem RWeek_args {y m d f l : Int} (hd : okD y m d = true) (k : Nat) (hk : 1 ≤ k) : idiomref15_Week.f k y m d f l = idiomref15_Week.j0 k f l (!decide (0 ≤ f ∧ f ≤ 6 ∧ 1 ≤ l ∧ l ≤ 7)) y m d := by
  unfold idiomref15_Week.f
  rw [RCheck_f _ _ _ _ hk, if_pos hd]; simp only [Option.bind_some, if_true]
  by_cases c1 : f < 0
  · rw [if_pos c1, show decide (0 ≤ f ∧ f ≤ 6 ∧ 1 ≤ l ∧ l ≤ 7) = false by simp; omega]; rfl
  rw [if_neg c1]
  by_cases c2 : f > 6
  · rw [if_pos c2, show decide (0 ≤ f ∧ f ≤ 6 ∧ 1 ≤ l ∧ l ≤ 7) = false by simp; omega]; rfl
  rw [if_neg c2]
  by_cases c3 : l < 1
  · rw [if_pos c3, show decide (0 ≤ f ∧ f ≤ 6 ∧ 1 ≤ l ∧ l ≤ 7) = false by simp; omega]; rfl
  rw [if_neg c3]
  by_cases c4 : l > 7
  · rw [show decide (l > 7) = true by simpa using c4, show decide (0 ≤ f ∧ f ≤ 6 ∧ 1 ≤ l ∧ l ≤ 7) = false by simp; omega]; rfl
  · rw [show decide (l > 7) = false by simpa using c4, show decide (0 ≤ f ∧ f ≤ 6 ∧ 1 ≤ l ∧ l ≤ 7) = true by simp; omega]; rfl
theorem RWeek_yes {y m d f l : Int} (hd : okD y m d = true) (hf : 0 ≤ f ∧ f ≤ 6) (hl : 1 ≤ l ∧ l ≤ 7) (k : Nat) (hk : 10010 ≤ k) :
    idiomref15_Week.f k y m d f l = some (wy y (nm y m d) f l, wn y (nm y m d) f l, 0) := by
  obtain ⟨k, rfl⟩ : ∃ i, k = i + 1 := ⟨k - 1, by omega⟩
  have hb := nm_bd hd
  have hg := okD_iff.1 hd
  have hw := wy_bd y (nm y m d) f l
  rw [RWeek_args hd _ (by omega), show decide (0 ≤ f ∧ f ≤ 6 ∧ 1 ≤ l ∧ l ≤ 7) = true by simp; omega]
  simp only [idiomref15_Week.j0, Bool.not_true, Bool.false_eq_true, if_false]
  rw [rdays_f k hd (by omega)]; simp only [Option.bind_some]
  rw [w64 (x := y + 1) (by omega), begins_f k (y + 1) f l (by omega) (by omega) hf hl]; simp only [Option.bind_some]
  exact RWeek_l0 y (nm y m d) f l ⟨hg.1, hg.2.1⟩ hf hl hb.1 hb.2.1 _ k (y + 1) (by omega) (by omega) (by omega) rfl (by omega)
theorem RWeek_arg {y m d f l : Int} (hd : okD y m d = true) (h : ¬ ((0 ≤ f ∧ f ≤ 6) ∧ 1 ≤ l ∧ l ≤ 7)) (k : Nat) (hk : 1 ≤ k) : idiomref15_Week.f k y m d f l = some (0, 0, 1) := by
  obtain ⟨k, rfl⟩ : ∃ i, k = i + 1 := ⟨k - 1, by omega⟩
  rw [RWeek_args hd _ (by omega), show decide (0 ≤ f ∧ f ≤ 6 ∧ 1 ≤ l ∧ l ≤ 7) = false by simp; omega]
  simp [idiomref15_Week.j0]
theorem RWeek_date {y m d : Int} (f l : Int) (hd : ¬ okD y m d = true) (k : Nat) (hk : 1 ≤ k) : idiomref15_Week.f k y m d f l = some (0, 0, 150) := by
  unfold idiomref15_Week.f
  rw [RCheck_f _ _ _ _ hk, if_neg hd]; simp
end Go.Proofs.YtjgabbhflnkbmaaDoor.Pl
