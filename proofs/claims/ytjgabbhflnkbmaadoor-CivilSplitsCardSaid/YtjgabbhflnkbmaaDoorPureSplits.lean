/- The plain law of CivilSplits: at every moment of 64 bits and every offset the printed law answers true. -/
import Derived.Test.YtjgabbhflnkbmaaDoorPlSplit
import Derived.Test.YtjgabbhflnkbmaaDoorPlROf
import Derived.Test.YtjgabbhflnkbmaaDoorPCivilx24
import Derived.Test.YtjgabbhflnkbmaaDoorPCivilx25
namespace Go.Proofs.YtjgabbhflnkbmaaDoor.Pl
open Go.RowKit Go.Proofs.YtjgabbhflnkbmaaDoorW.PrintWords Go.Proofs.YtjgabbhflnkbmaaDoor.PCivil Cal
set_option linter.unusedVariables false
theorem wf_bounds {x : Int} (h : (Lit.int .i64 x).wf = true) : -9223372036854775808 ≤ x ∧ x ≤ 9223372036854775807 := by
  simp [Lit.wf, IntKind.min, IntKind.max, IntKind.bits, IntKind.signed] at h
  omega
theorem RSplit_f {ms z : Int} (hm : -9223372036854775808 ≤ ms ∧ ms ≤ 9223372036854775807) (hz : -1080 ≤ z ∧ z ≤ 1080) (k : Nat) (hk : 10300 ≤ k) :
    (∀ y m d, okD y m d = true → nm y m d = (ms + z * 60000) / 86400000 → idiomref15_Split.f k ms z = some (told y m d ((ms + z * 60000) % 86400000))) ∧
    (¬ (-719162 ≤ (ms + z * 60000) / 86400000 ∧ (ms + z * 60000) / 86400000 ≤ 2932896) → idiomref15_Split.f k ms z = some (refused 150)) := by
  obtain ⟨k, rfl⟩ : ∃ i, k = i + 2 := ⟨k - 2, by omega⟩
  have hj : idiomref15_Split.f (k + 2) ms z = idiomref15_Split.j1 (k + 1) ms z (decide (ms > 1152921504606846976 ∨ ms < -1152921504606846976)) := by
    unfold idiomref15_Split.f
    rw [if_neg (by omega), show decide (z > 1080) = false by simp; omega]
    simp only [idiomref15_Split.j0, Bool.false_eq_true, if_false]
    by_cases c : ms > 1152921504606846976
    · rw [if_pos c]; simp [c]
    · rw [if_neg c]; simp [c]
  rw [hj]
  by_cases c : ms > 1152921504606846976 ∨ ms < -1152921504606846976
  · rw [decide_eq_true c]
    simp only [idiomref15_Split.j1, if_true]
    constructor
    · intro y m d hd e
      have b := nm_bd hd
      omega
    · intro _; rfl
  · rw [decide_eq_false c]
    simp only [idiomref15_Split.j1, Bool.false_eq_true, if_false]
    have t1 := Int.tmod_lt_of_pos (ms + z * 60000) (b := 86400000) (by omega)
    have t2 := Int.lt_tmod_of_pos (ms + z * 60000) (b := 86400000) (by omega)
    have t3 := Int.tmod_add_mul_tdiv (ms + z * 60000) 86400000
    have t4 : (ms + z * 60000) < 0 ∨ 0 ≤ (ms + z * 60000).tmod 86400000 := by
      by_cases s : 0 ≤ ms + z * 60000
      · right; exact Int.tmod_nonneg _ s
      · left; omega
    rw [w64 (x := z * 60000) (by omega), w64 (x := ms + z * 60000) (by omega)]
    generalize hM : ms + z * 60000 = M at *
    generalize hq : Int.tdiv M 86400000 = q at *
    generalize hp : Int.tmod M 86400000 = p at *
    rw [w64 (x := q) (by omega), w64 (x := q - 1) (by omega), w64 (x := p + 86400000) (by omega)]
    by_cases s : p < 0
    · have eN : M / 86400000 = q - 1 := by omega
      have eR : M % 86400000 = p + 86400000 := by omega
      rw [if_pos s, eN, eR]
      constructor
      · intro y m d hd e
        have b := nm_bd hd
        rw [if_neg (by omega), if_neg (by omega), ← e, ROf_nm hd k (by omega)]; simp only [Option.bind_some]
        rw [Int.tdiv_eq_ediv_of_nonneg (by omega), Int.tdiv_eq_ediv_of_nonneg (by omega), Int.tdiv_eq_ediv_of_nonneg (by omega), w64 (x := (p + 86400000) / 3600000) (by omega), w64 (x := (p + 86400000) / 60000) (by omega), w64 (x := (p + 86400000) / 1000) (by omega), Int.tmod_eq_emod_of_nonneg (by omega), Int.tmod_eq_emod_of_nonneg (by omega), Int.tmod_eq_emod_of_nonneg (by omega)]
        rfl
      · intro h
        by_cases c1 : q - 1 < -719162
        · rw [if_pos c1]; rfl
        · rw [if_neg c1, if_pos (by omega)]; rfl
    · have eN : M / 86400000 = q := by omega
      have eR : M % 86400000 = p := by omega
      rw [if_neg s, eN, eR]
      constructor
      · intro y m d hd e
        have b := nm_bd hd
        rw [if_neg (by omega), if_neg (by omega), ← e, ROf_nm hd k (by omega)]; simp only [Option.bind_some]
        rw [Int.tdiv_eq_ediv_of_nonneg (by omega), Int.tdiv_eq_ediv_of_nonneg (by omega), Int.tdiv_eq_ediv_of_nonneg (by omega), w64 (x := p / 3600000) (by omega), w64 (x := p / 60000) (by omega), w64 (x := p / 1000) (by omega), Int.tmod_eq_emod_of_nonneg (by omega), Int.tmod_eq_emod_of_nonneg (by omega), Int.tmod_eq_emod_of_nonneg (by omega)]
        rfl
      · intro h
        by_cases c1 : q < -719162
        · rw [if_pos c1]; rfl
        · rw [if_neg c1, if_pos (by omega)]; rfl
theorem RSplit_arg {ms z : Int} (hz : ¬ (-1080 ≤ z ∧ z ≤ 1080)) (k : Nat) (hk : 1 ≤ k) : idiomref15_Split.f k ms z = some (refused 1) := by
  obtain ⟨k, rfl⟩ : ∃ i, k = i + 1 := ⟨k - 1, by omega⟩
  unfold idiomref15_Split.f
  by_cases c : z < -1080
  · rw [if_pos c]; simp [idiomref15_Split.j0, refused]
  · rw [if_neg c, show decide (z > 1080) = true by simp; omega]; simp [idiomref15_Split.j0, refused]
theorem CivilSplits (ms z : Int) (w0 : (Lit.int .i64 ms).wf = true) (_ : (Lit.int .i64 z).wf = true) : ∃ k, idiomlaw15_CivilSplits.f k ms z = some true := by
  have hm := wf_bounds w0
  refine ⟨20000, ?_⟩
  generalize hK : 20000 = K at *
  have h0 : 10300 ≤ K := by omega
  clear hK
  unfold idiomlaw15_CivilSplits.f
  by_cases hz : -1080 ≤ z ∧ z ≤ 1080
  · obtain ⟨r1, r2⟩ := RSplit_f hm hz K h0
    by_cases hn : -719162 ≤ (ms + z * 60000) / 86400000 ∧ (ms + z * 60000) / 86400000 ≤ 2932896
    · obtain ⟨y, m, d, g1, g2, g3⟩ := Of_yes _ hn K (by omega)
      rw [Split_f hm hz (fun k hk => Fin_yes g1 g2 (by omega) k hk) K h0, r1 y m d g1 g2, awake_f]
      simp
    · rw [Split_f hm hz (fun k hk => Fin_no hn k (by omega)) K h0, r2 hn, awake_f]
      simp [refused]
  · rw [Split_arg hz K (by omega), RSplit_arg hz K (by omega), awake_f]
    simp [refused]
end Go.Proofs.YtjgabbhflnkbmaaDoor.Pl
