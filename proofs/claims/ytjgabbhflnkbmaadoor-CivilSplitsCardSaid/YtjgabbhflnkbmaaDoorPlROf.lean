/- What the document's printed Of comes to: the one day of a number; conditions: rounds enough. -/
import Derived.Test.YtjgabbhflnkbmaaDoorPlOf
import Derived.Test.YtjgabbhflnkbmaaDoorPCivilx14
namespace Go.Proofs.YtjgabbhflnkbmaaDoor.Pl
open Go.RowKit Go.Proofs.YtjgabbhflnkbmaaDoorW.PrintWords Go.Proofs.YtjgabbhflnkbmaaDoor.PCivil Cal
set_option linter.unusedVariables false

theorem ROf_l1 (n y : Int) (hy1 : 1 ≤ y) (hy2 : y ≤ 9999) (hn : n < bg (y + 1)) (hr : -719162 ≤ n ∧ n ≤ 2932896) : ∀ (j : Nat) (k : Nat) (m : Int), 1 ≤ m → m ≤ 12 → 0 ≤ n - bg y - cm y m → (12 - m).toNat = j → j + 1 < k →
    ∃ m' d', okD y m' d' = true ∧ nm y m' d' = n ∧ idiomref15_Of.l1 k (n - bg y - cm y m) y m 1 = some (y, m', d', 0) := by
  intro j
  induction j with
  | zero =>
    intro k m h1 h2 h3 hj hk
    obtain ⟨k, rfl⟩ : ∃ i, k = i + 1 := ⟨k - 1, by omega⟩
    obtain rfl : m = 12 := by omega
    have hl := cm_last y
    have hs := bg_succ y
    have hb := ml_bd y 12
    obtain ⟨g1, g2⟩ := in_month (n := n) hy1 hy2 (by omega) (by omega) h3 (by omega)
    refine ⟨12, _, g1, g2, ?_⟩
    simp only [idiomref15_Of.l1]; rw [Month_f k y 12 (by omega) (by omega)]
    simp only [Option.bind_some]; rw [if_neg (by omega), Int.add_comm, w64 (by omega)]
  | succ j ih =>
    intro k m h1 h2 h3 hj hk
    obtain ⟨k, rfl⟩ : ∃ i, k = i + 1 := ⟨k - 1, by omega⟩
    have hs := bg_succ y
    have hb := ml_bd y m
    have hyl := yl_bd y
    have hcm := cm_bd y m
    have hbb := bg_bd y (by omega) (by omega)
    by_cases hc : n - bg y - cm y m ≥ ml y m
    · have e := cm_succ y m h1 h2
      obtain ⟨m', d', g1, g2, g3⟩ := ih k (m + 1) (by omega) (by omega) (by rw [e]; omega) (by omega) (by omega)
      refine ⟨m', d', g1, g2, ?_⟩
      simp only [idiomref15_Of.l1]; rw [Month_f k y m (by omega) (by omega)]
      simp only [Option.bind_some]; rw [if_pos hc]
      rw [w64 (x := m + 1) (by omega), w64 (x := n - bg y - cm y m - ml y m) (by omega), show n - bg y - cm y m - ml y m = n - bg y - cm y (m + 1) by rw [e]; omega]
      exact g3
    · obtain ⟨g1, g2⟩ := in_month (n := n) hy1 hy2 h1 h2 h3 (by omega)
      refine ⟨m, _, g1, g2, ?_⟩
      simp only [idiomref15_Of.l1]; rw [Month_f k y m (by omega) (by omega)]
      simp only [Option.bind_some]; rw [if_neg hc, Int.add_comm, w64 (by omega)]
theorem ROf_l0 (n : Int) (hr : -719162 ≤ n ∧ n ≤ 2932896) : ∀ (j : Nat) (k : Nat) (y : Int), 1 ≤ y → bg y ≤ n → (10000 - y).toNat = j → j + 30 < k →
    ∃ y' m' d', okD y' m' d' = true ∧ nm y' m' d' = n ∧ idiomref15_Of.l0 k (n - bg y) y 1 1 = some (y', m', d', 0) := by
  intro j
  induction j with
  | zero =>
    intro k y h1 h3 hj hk
    have := bg_top y (by omega)
    omega
  | succ j ih =>
    intro k y h1 h3 hj hk
    obtain ⟨k, rfl⟩ : ∃ i, k = i + 1 := ⟨k - 1, by omega⟩
    have ht := bg_top y (by omega)
    have hs := bg_succ y
    have hyl := yl_bd y
    have hbb := bg_bd y (by omega) (by omega)
    by_cases hc : n - bg y ≥ yl y
    · obtain ⟨y', m', d', g1, g2, g3⟩ := ih k (y + 1) (by omega) (by omega) (by omega) (by omega)
      refine ⟨y', m', d', g1, g2, ?_⟩
      simp only [idiomref15_Of.l0]; rw [year_f y (by omega)]
      simp only [Option.bind_some]; rw [if_pos hc, w64 (x := y + 1) (by omega), w64 (x := n - bg y - yl y) (by omega), show n - bg y - yl y = n - bg (y + 1) by omega]
      exact g3
    · obtain ⟨m', d', g1, g2, g3⟩ := ROf_l1 n y h1 ht (by omega) hr 11 k 1 (by omega) (by omega) (by rw [cm_one]; omega) (by omega) (by omega)
      rw [cm_one, Int.sub_zero] at g3
      refine ⟨y, m', d', g1, g2, ?_⟩
      simp only [idiomref15_Of.l0]; rw [year_f y (by omega)]
      simp only [Option.bind_some]; rw [if_neg hc]; exact g3
theorem ROf_yes (n : Int) (hr : -719162 ≤ n ∧ n ≤ 2932896) (k : Nat) (hk : 10100 ≤ k) :
    ∃ y m d, okD y m d = true ∧ nm y m d = n ∧ idiomref15_Of.f k n = some (y, m, d, 0) := by
  obtain ⟨k, rfl⟩ : ∃ i, k = i + 1 := ⟨k - 1, by omega⟩
  obtain ⟨y', m', d', g1, g2, g3⟩ := ROf_l0 n hr 9999 k 1 (by omega) (by rw [bg_one]; omega) (by omega) (by omega)
  refine ⟨y', m', d', g1, g2, ?_⟩
  rw [bg_one] at g3
  unfold idiomref15_Of.f
  rw [if_neg (by omega), show decide (n > 2932896) = false by simp; omega]
  simp only [idiomref15_Of.j0, Bool.false_eq_true, if_false]
  rw [show n - -719162 = n + 719162 by omega] at g3
  rw [w64 (x := n + 719162) (by omega)]
  exact g3
theorem ROf_no (n : Int) (hr : ¬ (-719162 ≤ n ∧ n ≤ 2932896)) (k : Nat) (hk : 1 ≤ k) : idiomref15_Of.f k n = some (0, 0, 0, 150) := by
  obtain ⟨k, rfl⟩ : ∃ i, k = i + 1 := ⟨k - 1, by omega⟩
  unfold idiomref15_Of.f
  by_cases h : n < -719162
  · rw [if_pos h]; simp [idiomref15_Of.j0]
  · rw [if_neg h, show decide (n > 2932896) = true by simp; omega]; simp [idiomref15_Of.j0]
theorem ROf_nm {y m d : Int} (h : okD y m d = true) (k : Nat) (hk : 10100 ≤ k) : idiomref15_Of.f k (nm y m d) = some (y, m, d, 0) := by
  have b := nm_bd h
  obtain ⟨y', m', d', g1, g2, g3⟩ := ROf_yes (nm y m d) ⟨b.2.2.1, b.2.2.2⟩ k hk
  obtain ⟨rfl, rfl, rfl⟩ := nm_inj g1 h g2
  exact g3
end Go.Proofs.YtjgabbhflnkbmaaDoor.Pl
