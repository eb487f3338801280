/- What the printed Join (the program's) comes to: the moment of a day and a time of day; conditions: rounds enough. -/
import Derived.Test.YtjgabbhflnkbmaaDoorPlBase
import Derived.Test.YtjgabbhflnkbmaaDoorPCivilx11
namespace Go.Proofs.YtjgabbhflnkbmaaDoor.Pl
open Go.RowKit Go.Proofs.YtjgabbhflnkbmaaDoorW.PrintWords Go.Proofs.YtjgabbhflnkbmaaDoor.PCivil Cal
set_option linter.unusedVariables false
/-- A time of day. -/
def okC (h m s l : Int) : Bool := decide (0 ≤ h ∧ h ≤ 23 ∧ 0 ≤ m ∧ m ≤ 59 ∧ 0 ≤ s ∧ s ≤ 59 ∧ 0 ≤ l ∧ l ≤ 999)
theorem okC_iff {h m s l : Int} : okC h m s l = true ↔ (0 ≤ h ∧ h ≤ 23 ∧ 0 ≤ m ∧ m ≤ 59 ∧ 0 ≤ s ∧ s ≤ 59 ∧ 0 ≤ l ∧ l ≤ 999) := by unfold okC; exact decide_eq_true_iff
/-- The moment, in milliseconds. -/
def mom (n h m s l z : Int) : Int := n * 86400000 + (3600 * h + 60 * (m - z) + s) * 1000 + l
theorem Join_clock {y m d : Int} (hd : okD y m d = true) (a b c e z : Int) (k : Nat) :
    civil_Join.f k y m d a b c e z = civil_Join.j0 k z (!okC a b c e) y m d a b c e := by
  unfold civil_Join.f
  rw [Check_f, if_pos hd]; simp only [Option.bind_some, if_true]
  by_cases h : okC a b c e = true
  · rw [h]; rw [okC_iff] at h
    rw [if_neg (by omega), if_neg (by omega), if_neg (by omega), if_neg (by omega), if_neg (by omega), if_neg (by omega), if_neg (by omega), show decide (e > 999) = false by simp; omega]; rfl
  · rw [show okC a b c e = false by simpa using h]
    rw [okC_iff] at h
    by_cases c1 : a < 0
    · rw [if_pos c1]; rfl
    rw [if_neg c1]
    by_cases c2 : a > 23
    · rw [if_pos c2]; rfl
    rw [if_neg c2]
    by_cases c3 : b < 0
    · rw [if_pos c3]; rfl
    rw [if_neg c3]
    by_cases c4 : b > 59
    · rw [if_pos c4]; rfl
    rw [if_neg c4]
    by_cases c5 : c < 0
    · rw [if_pos c5]; rfl
    rw [if_neg c5]
    by_cases c6 : c > 59
    · rw [if_pos c6]; rfl
    rw [if_neg c6]
    by_cases c7 : e < 0
    · rw [if_pos c7]; rfl
    rw [if_neg c7, show decide (e > 999) = true by simp; omega]; rfl
theorem Join_yes {y m d a b c e z : Int} (hd : okD y m d = true) (hc : okC a b c e = true) (hz : -1080 ≤ z ∧ z ≤ 1080) (k : Nat) (hk : 1 ≤ k) :
    civil_Join.f k y m d a b c e z = some (mom (nm y m d) a b c e z, 0) := by
  obtain ⟨k, rfl⟩ : ∃ i, k = i + 1 := ⟨k - 1, by omega⟩
  rw [Join_clock hd, hc]
  have bn := nm_bd hd
  rw [okC_iff] at hc
  simp only [civil_Join.j0, Bool.not_true, Bool.false_eq_true, if_false]
  rw [if_neg (by omega), if_neg (by omega), days_f hd]
  simp only [Option.bind_some]
  rw [w64 (x := nm y m d * 86400000) (by omega), w64 (x := 3600 * a) (by omega), w64 (x := b - z) (by omega), w64 (x := 60 * (b - z)) (by omega), w64 (x := 3600 * a + 60 * (b - z)) (by omega), w64 (x := 3600 * a + 60 * (b - z) + c) (by omega), w64 (x := (3600 * a + 60 * (b - z) + c) * 1000) (by omega), w64 (x := nm y m d * 86400000 + (3600 * a + 60 * (b - z) + c) * 1000) (by omega), w64 (by omega)]
  rfl
theorem Join_date {y m d : Int} (a b c e z : Int) (hd : ¬ okD y m d = true) (k : Nat) : civil_Join.f k y m d a b c e z = some (0, 150) := by
  unfold civil_Join.f
  rw [Check_f, if_neg hd]; simp
theorem Join_clk {y m d a b c e : Int} (z : Int) (hd : okD y m d = true) (hc : ¬ okC a b c e = true) (k : Nat) (hk : 1 ≤ k) : civil_Join.f k y m d a b c e z = some (0, 151) := by
  obtain ⟨k, rfl⟩ : ∃ i, k = i + 1 := ⟨k - 1, by omega⟩
  rw [Join_clock hd, show okC a b c e = false by simpa using hc]
  simp [civil_Join.j0]
theorem Join_arg {y m d a b c e z : Int} (hd : okD y m d = true) (hc : okC a b c e = true) (hz : ¬ (-1080 ≤ z ∧ z ≤ 1080)) (k : Nat) (hk : 1 ≤ k) : civil_Join.f k y m d a b c e z = some (0, 1) := by
  obtain ⟨k, rfl⟩ : ∃ i, k = i + 1 := ⟨k - 1, by omega⟩
  rw [Join_clock hd, hc]
  simp only [civil_Join.j0, Bool.not_true, Bool.false_eq_true, if_false]
  by_cases c1 : z < -1080
  · rw [if_pos c1]
  · rw [if_neg c1, if_pos (by omega)]
end Go.Proofs.YtjgabbhflnkbmaaDoor.Pl
