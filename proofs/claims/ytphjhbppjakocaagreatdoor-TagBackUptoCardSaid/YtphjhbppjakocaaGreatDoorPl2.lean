/- What the document's functions on one text come to, in the same words as the program's; letters made small, great; conditions: texts' lengths as each states. -/
import Derived.Test.YtphjhbppjakocaaGreatDoorPl1
import Derived.Test.YtphjhbppjakocaaGreatDoorPU4
namespace Go.Proofs.YtphjhbppjakocaaGreatDoor.Pl
open Go.RowKit Go.Proofs.YtphjhbppjakocaaGreatDoorW.PrintWords Go.Proofs.YtphjhbppjakocaaGreatDoor.PTag
set_option linter.unusedVariables false
theorem letter_f (c : UInt8) : idiomref07_letter.f (c.toNat : Int) = some (isL c) := by
  unfold idiomref07_letter.f isL
  by_cases h1 : c.toNat ≥ 97
  · rw [if_pos (by omega)]
    by_cases h2 : c.toNat ≤ 122
    · rw [if_pos (by omega)]; simp [h1, h2]
    · rw [if_neg (by omega), if_pos (by omega)]
      have : ¬ c.toNat ≤ 90 := by omega
      simp [h2, this]; omega
  · rw [if_neg (by omega)]
    by_cases h2 : c.toNat ≥ 65
    · rw [if_pos (by omega)]; simp [h1, h2]; omega
    · rw [if_neg (by omega)]; simp [h1, h2]
theorem digit_f (c : UInt8) : idiomref01_Digit.f (c.toNat : Int) = some (isD c) := by
  unfold idiomref01_Digit.f isD
  by_cases h1 : c.toNat ≥ 48
  · rw [if_pos (by omega)]; simp [h1]; omega
  · rw [if_neg (by omega)]; simp [h1]
theorem rletters_f (s : ByteArray) (n : Nat) (hs : s.size < 9223372036854775807) : Ev (fun k => idiomref07_letters.f k s (n : Int)) (lets (L s) n n) := by
  unfold idiomref07_letters.f lets
  refine ev_all (L s) isL _ (fun k i => idiomref07_letters.l0 k s (n : Int) (i : Int)) ?_ ?_ ?_
  · refine Ev.step (f := fun _ => some (decide (n ≤ s.size) && decide (s.size ≤ n))) (fun k => ?_) (by rw [L_len]; exact Ev.now _)
    simp only [idiomref07_letters.l0]
    rw [L_len, if_neg (by omega), Option.some.injEq, Bool.eq_iff_iff]
    simp; omega
  · intro i c h hc hp r hr
    obtain ⟨hbt, hlt⟩ := bt_c h hc
    refine Ev.step (f := fun k => idiomref07_letters.l0 k s (n : Int) ((i + 1 : Nat) : Int)) (fun k => ?_) hr
    simp only [idiomref07_letters.l0]
    rw [if_pos (by omega), if_pos (by omega), hbt, letter_f, hp]
    simp only [Option.bind_some, if_true]
    rw [next64 hs hlt]
  · intro i c h hc hp
    obtain ⟨hbt, hlt⟩ := bt_c h hc
    refine Ev.step (f := fun k => some false) (fun k => ?_) (Ev.now _)
    simp only [idiomref07_letters.l0]
    rw [if_pos (by omega), if_pos (by omega), hbt, letter_f, hp]
    simp
theorem lang_f (s : ByteArray) (hs : s.size < 9223372036854775807) : Ev (fun k => idiomref07_lang.f k s) (lets (L s) 2 3) := by
  have e : lets (L s) 2 3 = (lets (L s) 2 2 || lets (L s) 3 3) := by
    unfold lets
    cases (L s).all isL with
    | false => simp
    | true => rw [Bool.eq_iff_iff]; simp; omega
  rw [e]
  unfold idiomref07_lang.f
  refine Ev.bind (rletters_f s 2 hs) ?_
  cases lets (L s) 2 2 with
  | true => simpa using Ev.now _
  | false => simpa using Ev.bind (rletters_f s 3 hs) (Ev.now _)
theorem script_f (s : ByteArray) (hs : s.size < 9223372036854775807) : Ev (fun k => idiomref07_script.f k s) (lets (L s) 4 4) := by
  unfold idiomref07_script.f
  exact Ev.bind (rletters_f s 4 hs) (Ev.now _)
theorem rregion_f (s : ByteArray) (hs : s.size < 9223372036854775807) : Ev (fun k => idiomref07_region.f k s) (regn (L s)) := by
  unfold idiomref07_region.f regn
  refine Ev.bind (rletters_f s 2 hs) ?_
  cases lets (L s) 2 2 with
  | true => simpa using Ev.now _
  | false =>
    simp only [Bool.false_eq_true, if_false, Bool.false_or]
    by_cases h3 : s.size = 3
    · obtain ⟨a, b, c, hl⟩ : ∃ a b c, L s = [a, b, c] := by
        have hlen := L_len s
        rw [h3] at hlen
        match hh : L s, hlen with
        | [a, b, c], _ => exact ⟨a, b, c, rfl⟩
      have b0 : bt s 0 = (a.toNat : Int) := by have := bt_L (s := s) (i := 0) (by omega); simp only [hl] at this; exact this
      have b1 : bt s 1 = (b.toNat : Int) := by have := bt_L (s := s) (i := 1) (by omega); simp only [hl] at this; exact this
      have b2 : bt s 2 = (c.toNat : Int) := by have := bt_L (s := s) (i := 2) (by omega); simp only [hl] at this; exact this
      refine Ev.congr (f := fun _ => some (nums (L s))) (fun k => ?_) (Ev.now _)
      rw [if_pos (by omega), if_pos (by omega), b0, digit_f, b1, digit_f, b2, digit_f, hl]
      simp only [Option.bind_some, nums, List.all_cons, List.all_nil, List.length_cons, List.length_nil]
      cases isD a <;> cases isD b <;> simp <;> omega
    · refine Ev.congr (f := fun _ => some false) (fun k => if_neg (by omega)) ?_
      have : nums (L s) = false := by unfold nums; rw [L_len]; simp [h3]
      rw [this]; exact Ev.now _
theorem rsigns_f (s : ByteArray) (lo hi : Nat) (hs : s.size < 9223372036854775807) : Ev (fun k => idiomref07_signs.f k s (lo : Int) (hi : Int)) (sgns (L s) lo hi) := by
  unfold idiomref07_signs.f sgns
  refine ev_all (L s) isS _ (fun k i => idiomref07_signs.l0 k s (lo : Int) (hi : Int) (i : Int)) ?_ ?_ ?_
  · refine Ev.step (f := fun _ => some (decide (lo ≤ s.size) && decide (s.size ≤ hi))) (fun k => ?_) (by rw [L_len]; exact Ev.now _)
    simp only [idiomref07_signs.l0]
    rw [L_len, if_neg (by omega)]
    exact end_int s.size lo hi
  · intro i c h hc hp r hr
    obtain ⟨hbt, hlt⟩ := bt_c h hc
    refine Ev.step (f := fun k => idiomref07_signs.j1 k s lo hi i false) (fun k => ?_) (Ev.step (f := fun k => idiomref07_signs.l0 k s (lo : Int) (hi : Int) ((i + 1 : Nat) : Int)) (fun k => ?_) hr)
    · simp only [idiomref07_signs.l0]
      rw [if_pos (by omega), if_pos (by omega), hbt, letter_f, digit_f]
      unfold isS at hp
      cases hL : isL c with
      | true => simp
      | false => rw [hL] at hp; simp at hp; simp [hp]
    · simp only [idiomref07_signs.j1]
      rw [if_neg (by simp), next64 hs hlt]
  · intro i c h hc hp
    obtain ⟨hbt, hlt⟩ := bt_c h hc
    have hL : isL c = false := by cases h : isL c <;> simp_all [isS]
    have hD : isD c = false := by simpa [isS, hL] using hp
    refine Ev.step (f := fun k => idiomref07_signs.j1 k s lo hi i true) (fun k => ?_) (Ev.step (f := fun k => some false) (fun k => by simp [idiomref07_signs.j1]) (Ev.now _))
    simp only [idiomref07_signs.l0]
    rw [if_pos (by omega), if_pos (by omega), hbt, letter_f, digit_f, hL, hD]
    simp
theorem rvariant_f (s : ByteArray) (hs : s.size < 9223372036854775807) : Ev (fun k => idiomref07_variant.f k s) (vart (L s)) := by
  unfold idiomref07_variant.f vart
  refine Ev.bind (rsigns_f s 5 8 hs) ?_
  cases h5 : sgns (L s) 5 8 with
  | true => simpa using Ev.now _
  | false =>
    simp only [Bool.false_eq_true, if_false, Bool.false_or]
    refine Ev.bind (rsigns_f s 4 4 hs) ?_
    cases h4 : sgns (L s) 4 4 with
    | false => simpa using Ev.now _
    | true =>
      have hlen : s.size = 4 := by
        have : (L s).length = 4 := by
          unfold sgns at h4
          simp only [Bool.and_eq_true, decide_eq_true_eq] at h4
          omega
        rw [← L_len]; exact this
      have hb := bt_L (s := s) (i := 0) (by omega)
      have hhd : (L s).headD 0 = (L s)[0]'(by rw [L_len]; omega) := headD_zero _ _
      simp only [if_true, Bool.true_and]
      rw [if_pos (by omega), show bt s 0 = _ from hb, hhd, digit_f]
      exact Ev.now _
def lowB : UInt8 → UInt8 := tag_lower.g
def upB : UInt8 → UInt8 := tag_upper.g
def low (s : ByteArray) : ByteArray := S ((L s).map lowB)
def upp (s : ByteArray) : ByteArray := S ((L s).map upB)
theorem low_size (s : ByteArray) : (low s).size = s.size := by unfold low; rw [S_size, List.length_map, L_len]
theorem upp_size (s : ByteArray) : (upp s).size = s.size := by unfold upp; rw [S_size, List.length_map, L_len]
theorem lower_f (s : ByteArray) (hs : s.size < 9223372036854775807) : tag_lower.f s = some (low s) := by unfold tag_lower.f; rw [if_pos hs]; rfl
theorem small_f (s : ByteArray) (hs : s.size < 9223372036854775807) : idiomref07_Small.f s = some (low s) := by unfold idiomref07_Small.f; rw [if_pos hs]; rfl
theorem upper_f (s : ByteArray) (hs : s.size < 9223372036854775807) : tag_upper.f s = some (upp s) := by unfold tag_upper.f; rw [if_pos hs]; rfl
theorem great_f (s : ByteArray) (hs : s.size < 9223372036854775807) : idiomref07_great.f s = some (upp s) := by unfold idiomref07_great.f; rw [if_pos hs]; rfl
def titl (s : ByteArray) : ByteArray := upp (s.extract 0 1) ++ low (s.extract 1 s.size)
theorem ext_size (s : ByteArray) (a b : Nat) : (s.extract a b).size = min b s.size - a := by simp
theorem title_f (s : ByteArray) (hs : s.size < 9223372036854775807) (h1 : 1 ≤ s.size) : tag_title.f s = some (titl s) := by
  have e1 : (s.extract 0 1).size ≤ s.size := by rw [ext_size]; omega
  have e2 : (s.extract 1 s.size).size + (s.extract 0 1).size ≤ s.size := by rw [ext_size, ext_size]; omega
  unfold tag_title.f
  rw [if_pos (by omega), if_pos (by omega), upper_f _ (by omega), lower_f _ (by omega)]
  simp only [Option.bind_some]
  rw [upp_size, low_size, if_pos (by omega)]
  rfl
theorem rtitle_f (s : ByteArray) (hs : s.size < 9223372036854775807) : idiomref07_title.f s = some (if s.size = 0 then ⟨#[]⟩ else titl s) := by
  unfold idiomref07_title.f
  rw [toList_L]
  by_cases h0 : s.size = 0
  · rw [if_pos h0, if_pos (List.length_eq_zero_iff.1 (by rw [L_len]; exact h0))]
  · have e1 : (s.extract 0 1).size ≤ s.size := by rw [ext_size]; omega
    have e2 : (s.extract 1 s.size).size + (s.extract 0 1).size ≤ s.size := by rw [ext_size, ext_size]; omega
    rw [if_neg (fun h => h0 (by rw [← L_len, h]; rfl)), if_neg h0, if_pos (by omega), if_pos (by omega), great_f _ (by omega), small_f _ (by omega)]
    simp only [Option.bind_some]
    rw [upp_size, low_size, if_pos (by omega)]
    rfl
end Go.Proofs.YtphjhbppjakocaaGreatDoor.Pl
