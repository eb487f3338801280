/- What the printed functions Of (the program's, the document's) come to: the one day of a number; conditions: rounds enough. -/
import Derived.Test.YtjgabbhflnkbmaaDoorPlBase
import Derived.Test.YtjgabbhflnkbmaaDoorPCivilx13
namespace Go.Proofs.YtjgabbhflnkbmaaDoor.Pl
open Go.RowKit Go.Proofs.YtjgabbhflnkbmaaDoorW.PrintWords Go.Proofs.YtjgabbhflnkbmaaDoor.PCivil Cal
set_option linter.unusedVariables false

/-- Where a year and a month of a number's day stand. -/
theorem in_month {n y m : Int} (hy1 : 1 ≤ y) (hy2 : y ≤ 9999) (hm1 : 1 ≤ m) (hm2 : m ≤ 12) (h0 : 0 ≤ n - bg y - cm y m) (h1 : n - bg y - cm y m < ml y m) :
    okD y m (n - bg y - cm y m + 1) = true ∧ nm y m (n - bg y - cm y m + 1) = n := by
  constructor
  · rw [okD_iff]; omega
  · unfold nm yd; omega

theorem Of_l1 (n y : Int) (hy1 : 1 ≤ y) (hy2 : y ≤ 9999) (hn : n < bg (y + 1)) (hr : -719162 ≤ n ∧ n ≤ 2932896) : ∀ (j : Nat) (k : Nat) (m : Int), 1 ≤ m → m ≤ 12 → 0 ≤ n - bg y - cm y m → (12 - m).toNat = j → j < k →
    ∃ m' d', okD y m' d' = true ∧ nm y m' d' = n ∧ civil_Of.l1 k (n - bg y - cm y m) y m 1 = some (y, m', d', 0) := by
  intro j
  induction j with
  | zero =>
    intro k m h1 h2 h3 hj hk
    obtain ⟨k, rfl⟩ : ∃ i, k = i + 1 := ⟨k - 1, by omega⟩
    obtain rfl : m = 12 := by omega
    have hl := cm_last y
    have hs := bg_succ y
    have hb := ml_bd y 12
    obtain ⟨g1, g2⟩ := in_month (n := n) hy1 hy2 (by omega) (by omega) h3 (by omega)
    refine ⟨12, _, g1, g2, ?_⟩
    simp only [civil_Of.l1]; rw [length_f y 12 (by omega)]
    simp only [Option.bind_some]; rw [if_neg (by omega), w64 (by omega)]
  | succ j ih =>
    intro k m h1 h2 h3 hj hk
    obtain ⟨k, rfl⟩ : ∃ i, k = i + 1 := ⟨k - 1, by omega⟩
    have hs := bg_succ y
    have hb := ml_bd y m
    have hyl := yl_bd y
    have hcm := cm_bd y m
    have hbb := bg_bd y (by omega) (by omega)
    by_cases hc : n - bg y - cm y m ≥ ml y m
    · have e := cm_succ y m h1 h2
      obtain ⟨m', d', g1, g2, g3⟩ := ih k (m + 1) (by omega) (by omega) (by rw [e]; omega) (by omega) (by omega)
      refine ⟨m', d', g1, g2, ?_⟩
      simp only [civil_Of.l1]; rw [length_f y m (by omega)]
      simp only [Option.bind_some]; rw [if_pos hc]
      rw [w64 (x := m + 1) (by omega), w64 (x := n - bg y - cm y m - ml y m) (by omega), show n - bg y - cm y m - ml y m = n - bg y - cm y (m + 1) by rw [e]; omega]
      exact g3
    · obtain ⟨g1, g2⟩ := in_month (n := n) hy1 hy2 h1 h2 h3 (by omega)
      refine ⟨m, _, g1, g2, ?_⟩
      simp only [civil_Of.l1]; rw [length_f y m (by omega)]
      simp only [Option.bind_some]; rw [if_neg hc, w64 (by omega)]
theorem Of_j2 (n y : Int) (hy1 : 1 ≤ y) (hy2 : y ≤ 9999) (hb : bg y ≤ n) (hn : n < bg (y + 1)) (hr : -719162 ≤ n ∧ n ≤ 2932896) (k : Nat) (hk : 20 ≤ k) :
    ∃ m' d', okD y m' d' = true ∧ nm y m' d' = n ∧ civil_Of.j2 k n y 1 1 = some (y, m', d', 0) := by
  obtain ⟨k, rfl⟩ : ∃ i, k = i + 1 := ⟨k - 1, by omega⟩
  have hbb := bg_bd y (by omega) (by omega)
  obtain ⟨m', d', g1, g2, g3⟩ := Of_l1 n y hy1 hy2 hn hr 11 k 1 (by omega) (by omega) (by rw [cm_one]; omega) (by omega) (by omega)
  refine ⟨m', d', g1, g2, ?_⟩
  rw [cm_one, Int.sub_zero] at g3
  simp only [civil_Of.j2]; rw [begin_f y (by omega) (by omega)]
  simp only [Option.bind_some]; rw [w64 (by omega)]; exact g3
theorem Of_l0 (n : Int) (hr : -719162 ≤ n ∧ n ≤ 2932896) : ∀ (j : Nat) (k : Nat) (y : Int), 1 ≤ y → y ≤ 9999 → bg y ≤ n → (9999 - y).toNat = j → j + 30 < k →
    ∃ y' m' d', okD y' m' d' = true ∧ nm y' m' d' = n ∧ civil_Of.l0 k n y 1 1 = some (y', m', d', 0) := by
  intro j
  induction j with
  | zero =>
    intro k y h1 h2 h3 hj hk
    obtain ⟨k, rfl⟩ : ∃ i, k = i + 1 := ⟨k - 1, by omega⟩
    obtain rfl : y = 9999 := by omega
    have := bg_last
    obtain ⟨m', d', g1, g2, g3⟩ := Of_j2 n 9999 (by omega) (by omega) h3 (by rw [show (9999 : Int) + 1 = 10000 from rfl, bg_last]; omega) hr k (by omega)
    refine ⟨9999, m', d', g1, g2, ?_⟩
    simp only [civil_Of.l0]; rw [if_neg (by omega)]; exact g3
  | succ j ih =>
    intro k y h1 h2 h3 hj hk
    obtain ⟨k, rfl⟩ : ∃ i, k = i + 1 := ⟨k - 1, by omega⟩
    by_cases hc : bg (y + 1) ≤ n
    · obtain ⟨y', m', d', g1, g2, g3⟩ := ih k (y + 1) (by omega) (by omega) hc (by omega) (by omega)
      refine ⟨y', m', d', g1, g2, ?_⟩
      simp only [civil_Of.l0]; rw [if_pos (by omega), w64 (x := y + 1) (by omega), begin_f (y + 1) (by omega) (by omega)]
      simp only [Option.bind_some]; rw [if_pos hc]; exact g3
    · obtain ⟨m', d', g1, g2, g3⟩ := Of_j2 n y h1 h2 h3 (by omega) hr k (by omega)
      refine ⟨y, m', d', g1, g2, ?_⟩
      simp only [civil_Of.l0]; rw [if_pos (by omega), w64 (x := y + 1) (by omega), begin_f (y + 1) (by omega) (by omega)]
      simp only [Option.bind_some]; rw [if_neg hc]; exact g3
/-- The program's Of at a number that has a day. -/
theorem Of_yes (n : Int) (hr : -719162 ≤ n ∧ n ≤ 2932896) (k : Nat) (hk : 10100 ≤ k) :
    ∃ y m d, okD y m d = true ∧ nm y m d = n ∧ civil_Of.f k n = some (y, m, d, 0) := by
  obtain ⟨k, rfl⟩ : ∃ i, k = i + 1 := ⟨k - 1, by omega⟩
  obtain ⟨b1, b2, b3⟩ := bg_guess n hr.1 hr.2
  have hd : (n + 719162) / 366 + 1 ≤ 9999 := b3
  obtain ⟨y', m', d', g1, g2, g3⟩ := Of_l0 n hr _ k _ b2 b3 b1 rfl (by omega)
  refine ⟨y', m', d', g1, g2, ?_⟩
  unfold civil_Of.f
  rw [if_neg (by omega), show decide (n > 2932896) = false by simp; omega]
  simp only [civil_Of.j0, Bool.false_eq_true, if_false]
  rw [show n - -719162 = n + 719162 by omega, w64 (x := n + 719162) (by omega), Int.tdiv_eq_ediv_of_nonneg (by omega), w64 (x := (n + 719162) / 366) (by omega), w64 (by omega)]
  exact g3
theorem Of_no (n : Int) (hr : ¬ (-719162 ≤ n ∧ n ≤ 2932896)) (k : Nat) (hk : 1 ≤ k) : civil_Of.f k n = some (0, 0, 0, 150) := by
  obtain ⟨k, rfl⟩ : ∃ i, k = i + 1 := ⟨k - 1, by omega⟩
  unfold civil_Of.f
  by_cases h : n < -719162
  · rw [if_pos h]; simp [civil_Of.j0]
  · rw [if_neg h, show decide (n > 2932896) = true by simp; omega]; simp [civil_Of.j0]
/-- The program's Of at a day's number: that day. -/
theorem Of_nm {y m d : Int} (h : okD y m d = true) (k : Nat) (hk : 10100 ≤ k) : civil_Of.f k (nm y m d) = some (y, m, d, 0) := by
  have b := nm_bd h
  obtain ⟨y', m', d', g1, g2, g3⟩ := Of_yes (nm y m d) ⟨b.2.2.1, b.2.2.2⟩ k hk
  obtain ⟨rfl, rfl, rfl⟩ := nm_inj g1 h g2
  exact g3
end Go.Proofs.YtjgabbhflnkbmaaDoor.Pl
