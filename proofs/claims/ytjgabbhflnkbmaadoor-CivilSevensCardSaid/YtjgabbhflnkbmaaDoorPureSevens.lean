/- The plain law of CivilSevens: at every input the printed law answers true; no condition. -/
import Derived.Test.YtjgabbhflnkbmaaDoorPlRWeek
import Derived.Test.YtjgabbhflnkbmaaDoorPlOf
import Derived.Test.YtjgabbhflnkbmaaDoorPCivilx26
namespace Go.Proofs.YtjgabbhflnkbmaaDoor.Pl
open Go.RowKit Go.Proofs.YtjgabbhflnkbmaaDoorW.PrintWords Go.Proofs.YtjgabbhflnkbmaaDoor.PCivil Cal
set_option linter.unusedVariables false

/-- Seven days later: the week's year and number. -/
theorem seven {Y n f l Z : Int} (hf : 0 ≤ f ∧ f ≤ 6) (hl : 1 ≤ l ∧ l ≤ 7) (h0 : bg Y ≤ n) (h1 : n < bg (Y + 1)) (g0 : bg Z ≤ n + 7) (g1 : n + 7 < bg (Z + 1)) :
    (wy Z (n + 7) f l = wy Y n f l ∧ wn Z (n + 7) f l = wn Y n f l + 1) ∨ (wy Z (n + 7) f l = wy Y n f l + 1 ∧ wn Z (n + 7) f l = 1 ∧ 52 ≤ wn Y n f l) := by
  obtain ⟨a, b⟩ := wy_at (f := f) hl h0 h1
  have s := op_step (wy Y n f l) f l hf hl
  have s1 := op_step (wy Y n f l + 1) f l hf hl
  by_cases c : n + 7 < op (wy Y n f l + 1) f l
  · have e := wy_of hf hl g0 g1 (y := wy Y n f l) (by omega) c
    left
    refine ⟨e.symm, ?_⟩
    unfold wn; rw [← e]; omega
  · have e := wy_of hf hl g0 g1 (y := wy Y n f l + 1) (by omega) (by omega)
    right
    refine ⟨e.symm, ?_, ?_⟩
    · unfold wn; rw [← e]; omega
    · unfold wn; omega
theorem Sevens_j1 (k : Nat) {y m d y' m' d' : Int} (h : okD y m d = true) (h' : okD y' m' d' = true) (e : nm y' m' d' = nm y m d + 7) :
    idiomlaw15_CivilSevens.j1 (k + 1) false y m d y' m' d' = some true := by
  simp only [idiomlaw15_CivilSevens.j1, Bool.false_eq_true, if_false]
  rw [Weekday_yes h, Weekday_yes h', awake_f]; simp only [Option.bind_some]
  rw [if_pos (by rw [e]; unfold wd; omega)]
theorem CivilSevens (y m d f l : Int) : ∃ k, idiomlaw15_CivilSevens.f k y m d f l = some true := by
  refine ⟨20002, ?_⟩
  generalize hK : 20000 = K at *
  have h0 : 10100 ≤ K := by omega
  rw [show 20002 = K + 2 by omega]
  clear hK
  unfold idiomlaw15_CivilSevens.f
  by_cases hd : okD y m d = true
  · have b := nm_bd hd
    have hg := okD_iff.1 hd
    rw [Days_yes hd]
    by_cases h : (0 ≤ f ∧ f ≤ 6) ∧ 1 ≤ l ∧ l ≤ 7
    · have hw := wy_bd y (nm y m d) f l
      obtain ⟨p1, p2⟩ := wy_at (f := f) h.2 b.1 b.2.1
      have p3 := op_step (wy y (nm y m d) f l) f l h.1 h.2
      have hwn : 1 ≤ wn y (nm y m d) f l ∧ wn y (nm y m d) f l ≤ 60 := by unfold wn; omega
      rw [Week_yes hd h.1 h.2 _ (by omega)]
      simp only [Option.bind_some, if_true, bne_self_eq_false, idiomlaw15_CivilSevens.j0, Bool.false_eq_true, if_false]
      rw [w64 (x := nm y m d + 7) (by omega), w64 (x := wy y (nm y m d) f l + 1) (by omega), w64 (x := wn y (nm y m d) f l + 1) (by omega)]
      by_cases hn : nm y m d + 7 ≤ 2932896
      · obtain ⟨y', m', d', g1, g2, g3⟩ := Of_yes (nm y m d + 7) (by omega) (K + 1) (by omega)
        have b' := nm_bd g1
        rw [g2] at b'
        rw [g3]; simp only [Option.bind_some, if_true]
        rw [Week_yes g1 h.1 h.2 (K + 1) (by omega), g2]; simp only [Option.bind_some, if_true]
        rcases seven h.1 h.2 b.1 b.2.1 b'.1 b'.2.1 with ⟨e1, e2⟩ | ⟨e1, e2, e3⟩
        · rw [if_pos e1, if_pos e2]; exact Sevens_j1 K hd g1 g2
        · rw [if_neg (by omega), if_pos e1, if_pos e2, show decide (wn y (nm y m d) f l ≥ 52) = true by simpa using e3]
          exact Sevens_j1 K hd g1 g2
      · rw [Of_no _ (by omega) _ (by omega)]; simp only [Option.bind_some]
        rw [if_neg (by decide), if_pos (by omega), awake_f]; rfl
    · rw [Week_arg hd h _ (by omega)]
      simp only [Option.bind_some, if_true]
      rw [show ((1 : Int) != 0) = true by decide]
      simp only [idiomlaw15_CivilSevens.j0, if_true]
      rw [RWeek_arg hd h _ (by omega), awake_f]; simp
  · rw [Days_no hd, Week_date f l hd]
    simp only [Option.bind_some]
    rw [if_neg (by decide)]
    simp only [idiomlaw15_CivilSevens.j0, if_true]
    rw [RWeek_date f l hd _ (by omega), awake_f]; simp
end Go.Proofs.YtjgabbhflnkbmaaDoor.Pl
