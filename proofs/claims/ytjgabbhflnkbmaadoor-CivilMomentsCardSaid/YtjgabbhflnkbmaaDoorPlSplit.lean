/- What the printed Split (the program's) comes to: the day and the time of day; conditions: a moment of 64 bits, rounds enough. -/
import Derived.Test.YtjgabbhflnkbmaaDoorPlOf
import Derived.Test.YtjgabbhflnkbmaaDoorPCivilx23
namespace Go.Proofs.YtjgabbhflnkbmaaDoor.Pl
open Go.RowKit Go.Proofs.YtjgabbhflnkbmaaDoorW.PrintWords Go.Proofs.YtjgabbhflnkbmaaDoor.PCivil Cal
set_option linter.unusedVariables false
/-- What Split tells at day number N and R milliseconds. -/
def told (y m d R : Int) : Int × Int × Int × Int × Int × Int × Int × Int := (y, m, d, R / 3600000, R / 60000 % 60, R / 1000 % 60, R % 1000, 0)
def refused (e : Int) : Int × Int × Int × Int × Int × Int × Int × Int := (0, 0, 0, 0, 0, 0, 0, e)
def Fin (k : Nat) (N R : Int) := if N < -719162 then civil_Split.j3 k N R true else civil_Split.j3 k N R (decide (N > 2932896))
theorem Fin_yes {y m d N R : Int} (hd : okD y m d = true) (e : nm y m d = N) (hR : 0 ≤ R ∧ R < 86400000) (k : Nat) (hk : 10200 ≤ k) : Fin k N R = some (told y m d R) := by
  obtain ⟨k, rfl⟩ : ∃ i, k = i + 1 := ⟨k - 1, by omega⟩
  have b := nm_bd hd
  rw [e] at b
  unfold Fin
  rw [if_neg (by omega), show decide (N > 2932896) = false by simp; omega]
  simp only [civil_Split.j3, Bool.false_eq_true, if_false]
  rw [← e, Of_nm hd k (by omega)]; simp only [Option.bind_some, if_true]
  rw [Int.tdiv_eq_ediv_of_nonneg (b := 1000) hR.1, w64 (x := R / 1000) (by omega), Int.tdiv_eq_ediv_of_nonneg (by omega), Int.tdiv_eq_ediv_of_nonneg (by omega), w64 (x := R / 1000 / 3600) (by omega), w64 (x := R / 1000 / 60) (by omega), Int.tmod_eq_emod_of_nonneg (by omega), Int.tmod_eq_emod_of_nonneg (by omega), Int.tmod_eq_emod_of_nonneg (by omega)]
  unfold told
  rw [show R / 1000 / 3600 = R / 3600000 by omega, show R / 1000 / 60 = R / 60000 by omega]
theorem Fin_no {N R : Int} (h : ¬ (-719162 ≤ N ∧ N ≤ 2932896)) (k : Nat) (hk : 1 ≤ k) : Fin k N R = some (refused 150) := by
  obtain ⟨k, rfl⟩ : ∃ i, k = i + 1 := ⟨k - 1, by omega⟩
  unfold Fin
  by_cases c : N < -719162
  · rw [if_pos c]; simp [civil_Split.j3, refused]
  · rw [if_neg c, show decide (N > 2932896) = true by simp; omega]; simp [civil_Split.j3, refused]
theorem Split_l1 {N R : Int} {r} (hr : ∀ k, 10200 ≤ k → Fin k N R = some r) (hR : 0 ≤ R ∧ R < 86400000) (hN : -1000000000000 ≤ N ∧ N ≤ 1000000000000) : ∀ (j : Nat) (k : Nat) (x7 x8 : Int), x7 * 86400000 + x8 = N * 86400000 + R → 0 ≤ x8 → (N - x7).toNat = j → j ≤ 9 → j + 10201 ≤ k → civil_Split.l1 k x7 x8 = some r := by
  intro j
  induction j with
  | zero =>
    intro k x7 x8 h1 h2 hj hj9 hk
    obtain ⟨k, rfl⟩ : ∃ i, k = i + 1 := ⟨k - 1, by omega⟩
    obtain rfl : x7 = N := by omega
    obtain rfl : x8 = R := by omega
    simp only [civil_Split.l1]; rw [if_neg (by omega)]
    exact hr k (by omega)
  | succ j ih =>
    intro k x7 x8 h1 h2 hj hj9 hk
    obtain ⟨k, rfl⟩ : ∃ i, k = i + 1 := ⟨k - 1, by omega⟩
    simp only [civil_Split.l1]; rw [if_pos (by omega), w64 (x := x7 + 1) (by omega), w64 (x := x8 - 86400000) (by omega)]
    exact ih k _ _ (by omega) (by omega) (by omega) (by omega) (by omega)
theorem Split_l0 {N R : Int} {r} (hr : ∀ k, 10200 ≤ k → Fin k N R = some r) (hR : 0 ≤ R ∧ R < 86400000) (hN : -1000000000000 ≤ N ∧ N ≤ 1000000000000) : ∀ (j : Nat) (k : Nat) (x7 x8 : Int), x7 * 86400000 + x8 = N * 86400000 + R → N - 9 ≤ x7 → (x7 - N).toNat = j → j ≤ 9 → j + 10230 ≤ k → civil_Split.l0 k x7 x8 = some r := by
  intro j
  induction j with
  | zero =>
    intro k x7 x8 h1 h2 hj hj9 hk
    obtain ⟨k, rfl⟩ : ∃ i, k = i + 1 := ⟨k - 1, by omega⟩
    simp only [civil_Split.l0]; rw [if_neg (by omega)]
    exact Split_l1 hr hR hN _ k x7 x8 h1 (by omega) rfl (by omega) (by omega)
  | succ j ih =>
    intro k x7 x8 h1 h2 hj hj9 hk
    obtain ⟨k, rfl⟩ : ∃ i, k = i + 1 := ⟨k - 1, by omega⟩
    simp only [civil_Split.l0]; rw [if_pos (by omega), w64 (x := x7 - 1) (by omega), w64 (x := x8 + 86400000) (by omega)]
    exact ih k _ _ (by omega) (by omega) (by omega) (by omega) (by omega)
theorem Split_f {ms z : Int} {r} (hm : -9223372036854775808 ≤ ms ∧ ms ≤ 9223372036854775807) (hz : -1080 ≤ z ∧ z ≤ 1080) (hr : ∀ k, 10200 ≤ k → Fin k ((ms + z * 60000) / 86400000) ((ms + z * 60000) % 86400000) = some r) (k : Nat) (hk : 10300 ≤ k) :
    civil_Split.f k ms z = some r := by
  obtain ⟨k, rfl⟩ : ∃ i, k = i + 1 := ⟨k - 1, by omega⟩
  have t1 := Int.tmod_lt_of_pos ms (b := 86400000) (by omega)
  have t2 := Int.lt_tmod_of_pos ms (b := 86400000) (by omega)
  have t3 := Int.tmod_add_mul_tdiv ms 86400000
  unfold civil_Split.f
  rw [if_neg (by omega), show decide (z > 1080) = false by simp; omega]
  simp only [civil_Split.j0, Bool.false_eq_true, if_false]
  generalize Int.tdiv ms 86400000 = q at *
  generalize Int.tmod ms 86400000 = p at *
  rw [w64 (x := q) (by omega), w64 (x := z * 60) (by omega), w64 (x := z * 60 * 1000) (by omega), w64 (x := p + z * 60 * 1000) (by omega)]
  exact Split_l0 hr (by omega) (by omega) _ k _ _ (by omega) (by omega) rfl (by omega) (by omega)
theorem Split_arg {ms z : Int} (hz : ¬ (-1080 ≤ z ∧ z ≤ 1080)) (k : Nat) (hk : 1 ≤ k) : civil_Split.f k ms z = some (refused 1) := by
  obtain ⟨k, rfl⟩ : ∃ i, k = i + 1 := ⟨k - 1, by omega⟩
  unfold civil_Split.f
  by_cases c : z < -1080
  · rw [if_pos c]; simp [civil_Split.j0, refused]
  · rw [if_neg c, show decide (z > 1080) = true by simp; omega]; simp [civil_Split.j0, refused]
end Go.Proofs.YtjgabbhflnkbmaaDoor.Pl
