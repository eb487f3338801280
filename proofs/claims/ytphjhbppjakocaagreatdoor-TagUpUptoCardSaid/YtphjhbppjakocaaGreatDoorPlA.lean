/- Several texts of this claim in one: Pl1,Pl2,Chk1,Chk2,Chk3,Chk4; conditions: those that each theorem states. -/
import Derived.Test.YtphjhbppjakocaaGreatDoorTagA
import Derived.Test.YtphjhbppjakocaaGreatDoorRefA
import Derived.Test.YtphjhbppjakocaaGreatDoorPU12
import Derived.Lib.SplitLaws
import Derived.Lib.IndexBytes
import Derived.Test.YtphjhbppjakocaaGreatDoorPU13
import Derived.Test.YtphjhbppjakocaaGreatDoorPU7
namespace Go.Proofs.YtphjhbppjakocaaGreatDoor.Pl
open Go.RowKit Go.Proofs.YtphjhbppjakocaaGreatDoorW.PrintWords Go.Proofs.YtphjhbppjakocaaGreatDoor.PTag
set_option linter.unusedVariables false
abbrev Bs := List UInt8
abbrev L (s : ByteArray) : Bs := s.data.toList
abbrev S (l : Bs) : ByteArray := ⟨l.toArray⟩
theorem w64 {x : Int} (h : -9223372036854775808 ≤ x ∧ x ≤ 9223372036854775807) : wrap64 x = x := by unfold wrap64; omega
theorem LS (l : Bs) : L (S l) = l := by simp [L]
theorem SL (s : ByteArray) : S (L s) = s := by cases s; simp [L]
theorem L_len (s : ByteArray) : (L s).length = s.size := data_length s
theorem S_size (l : Bs) : (S l).size = l.length := by rw [← L_len, LS]
theorem L_inj {a b : ByteArray} (h : L a = L b) : a = b := by rw [← SL a, ← SL b, h]
theorem toList_L (s : ByteArray) : s.toList = L s := Lib.toList_data s
theorem bt_L {s : ByteArray} {i : Nat} (h : i < s.size) : bt s (i : Int) = (((L s)[i]'(by rw [L_len]; exact h)).toNat : Int) := by
  unfold bt
  rw [dif_pos (by simpa using h)]
  simp [L, ByteArray.getElem_eq_getElem_data]
def isL (c : UInt8) : Bool := (decide (65 ≤ c.toNat) && decide (c.toNat ≤ 90)) || (decide (97 ≤ c.toNat) && decide (c.toNat ≤ 122))
def isD (c : UInt8) : Bool := decide (48 ≤ c.toNat) && decide (c.toNat ≤ 57)
def isS (c : UInt8) : Bool := isL c || isD c
theorem all_u8 {p : UInt8 → Prop} [DecidablePred p] (h : ∀ n : Fin 256, p (UInt8.ofNat n.val)) (c : UInt8) : p c := by
  have := h ⟨c.toNat, c.toNat_lt⟩
  simpa using this
set_option maxRecDepth 100000 in
theorem or32 (c : UInt8) : (isL c = true ↔ ¬ (Go.bits .or .u8 (c.toNat : Int) 32 < 97) ∧ ¬ (Go.bits .or .u8 (c.toNat : Int) 32 > 122)) :=
  all_u8 (p := fun c => (isL c = true ↔ ¬ (Go.bits .or .u8 (c.toNat : Int) 32 < 97) ∧ ¬ (Go.bits .or .u8 (c.toNat : Int) 32 > 122))) (by decide +kernel) c
def lets (l : Bs) (lo hi : Nat) : Bool := l.all isL && (decide (lo ≤ l.length) && decide (l.length ≤ hi))
def sgns (l : Bs) (lo hi : Nat) : Bool := l.all isS && (decide (lo ≤ l.length) && decide (l.length ≤ hi))
def nums (l : Bs) : Bool := l.all isD && decide (l.length = 3)
def regn (l : Bs) : Bool := lets l 2 2 || nums l
def vart (l : Bs) : Bool := sgns l 5 8 || (sgns l 4 4 && isD (l.headD 0))
theorem end_int (n lo hi : Nat) : (if (n : Int) ≥ (lo : Int) then (some (decide ((n : Int) ≤ (hi : Int)))) else some false) = some (decide (lo ≤ n) && decide (n ≤ hi)) := by
  by_cases h : lo ≤ n
  · rw [if_pos (by omega)]; simp [h]
  · rw [if_neg (by omega)]; simp [h]
theorem ev_all (l : Bs) (p : UInt8 → Bool) (e : Bool) (g : Nat → Nat → Option Bool) (hend : Ev (fun k => g k l.length) e) (ht : ∀ i c, (h : i < l.length) → l[i] = c → p c = true → ∀ r, Ev (fun k => g k (i + 1)) r → Ev (fun k => g k i) r)
    (hf : ∀ i c, (h : i < l.length) → l[i] = c → p c = false → Ev (fun k => g k i) false) : Ev (fun k => g k 0) (l.all p && e) := by
  have key : ∀ d i, l.length - i = d → i ≤ l.length → Ev (fun k => g k i) ((l.drop i).all p && e) := by
    intro d
    induction d with
    | zero =>
      intro i h1 h2
      have : i = l.length := by omega
      subst this
      rw [List.drop_length]; simpa using hend
    | succ d ih =>
      intro i h1 h2
      have hlt : i < l.length := by omega
      rw [List.drop_eq_getElem_cons hlt, List.all_cons]
      cases hp : p l[i] with
      | true => rw [Bool.true_and]; exact ht i _ hlt rfl hp _ (ih (i + 1) (by omega) (by omega))
      | false => rw [Bool.false_and, Bool.false_and]; exact hf i _ hlt rfl hp
  simpa using key l.length 0 (by omega) (by omega)
theorem bt_c {s : ByteArray} {i : Nat} {c : UInt8} (h : i < (L s).length) (hc : (L s)[i] = c) : bt s (i : Int) = (c.toNat : Int) ∧ i < s.size := by
  have hlt : i < s.size := by rw [← L_len]; exact h
  exact ⟨by rw [bt_L hlt, hc], hlt⟩
theorem next64 {s : ByteArray} (hs : s.size < 9223372036854775807) {i : Nat} (h : i < s.size) : wrap64 ((i : Int) + 1) = ((i + 1 : Nat) : Int) := w64 (by omega)
theorem letters_f (s : ByteArray) (lo hi : Nat) (hs : s.size < 9223372036854775807) : Ev (fun k => tag_letters.f k s (lo : Int) (hi : Int)) (lets (L s) lo hi) := by
  unfold tag_letters.f lets
  refine ev_all (L s) isL _ (fun k i => tag_letters.l0 k s (lo : Int) (hi : Int) (s.size : Int) (i : Int)) ?_ ?_ ?_
  · refine Ev.step (f := fun _ => some (decide (lo ≤ s.size) && decide (s.size ≤ hi))) (fun k => ?_) (by rw [L_len]; exact Ev.now _)
    simp only [tag_letters.l0]
    rw [L_len, if_neg (by omega)]
    exact end_int s.size lo hi
  · intro i c h hc hp r hr
    obtain ⟨hbt, hlt⟩ := bt_c h hc
    obtain ⟨h1, h2⟩ := (or32 c).1 hp
    refine Ev.step (f := fun k => tag_letters.j1 k s lo hi s.size i false) (fun k => ?_) (Ev.step (f := fun k => tag_letters.l0 k s (lo : Int) (hi : Int) (s.size : Int) ((i + 1 : Nat) : Int)) (fun k => ?_) hr)
    · simp only [tag_letters.l0]
      rw [if_pos (by omega), if_pos (by omega), if_pos (by omega), hbt, if_neg h1, decide_eq_false h2]
    · simp only [tag_letters.j1]
      rw [if_neg (by simp), next64 hs hlt]
  · intro i c h hc hp
    obtain ⟨hbt, hlt⟩ := bt_c h hc
    have hn := fun h => (by simpa [hp] using (or32 c).2 h : False)
    refine Ev.step (f := fun k => tag_letters.j1 k s lo hi s.size i true) (fun k => ?_) (Ev.step (f := fun k => some false) (fun k => by simp [tag_letters.j1]) (Ev.now _))
    simp only [tag_letters.l0]
    rw [if_pos (by omega), if_pos (by omega), if_pos (by omega), hbt]
    by_cases h1 : Go.bits .or .u8 (c.toNat : Int) 32 < 97
    · rw [if_pos h1]
    · rw [if_neg h1, decide_eq_true (Classical.byContradiction fun h2 => hn ⟨h1, h2⟩)]
theorem numerals_f (s : ByteArray) (hs : s.size < 9223372036854775807) : Ev (fun k => tag_numerals.f k s) (nums (L s)) := by
  unfold tag_numerals.f nums
  refine ev_all (L s) isD _ (fun k i => tag_numerals.l0 k s (s.size : Int) (i : Int)) ?_ ?_ ?_
  · refine Ev.step (f := fun _ => some (decide (s.size = 3))) (fun k => ?_) (by rw [L_len]; exact Ev.now _)
    simp only [tag_numerals.l0]
    rw [L_len, if_neg (by omega), Option.some.injEq, Bool.eq_iff_iff]
    simp; omega
  · intro i c h hc hp r hr
    obtain ⟨hbt, hlt⟩ := bt_c h hc
    simp only [isD, Bool.and_eq_true, decide_eq_true_eq] at hp
    refine Ev.step (f := fun k => tag_numerals.j1 k s s.size i false) (fun k => ?_) (Ev.step (f := fun k => tag_numerals.l0 k s (s.size : Int) ((i + 1 : Nat) : Int)) (fun k => ?_) hr)
    · simp only [tag_numerals.l0]
      rw [if_pos (by omega), if_pos (by omega), if_pos (by omega), hbt, if_neg (by omega), decide_eq_false (by omega)]
    · simp only [tag_numerals.j1]
      rw [if_neg (by simp), next64 hs hlt]
  · intro i c h hc hp
    obtain ⟨hbt, hlt⟩ := bt_c h hc
    have hn : ¬ (48 ≤ c.toNat ∧ c.toNat ≤ 57) := by simpa [isD] using hp
    refine Ev.step (f := fun k => tag_numerals.j1 k s s.size i true) (fun k => ?_) (Ev.step (f := fun k => some false) (fun k => by simp [tag_numerals.j1]) (Ev.now _))
    simp only [tag_numerals.l0]
    rw [if_pos (by omega), if_pos (by omega), if_pos (by omega), hbt]
    by_cases h1 : (c.toNat : Int) < 48
    · rw [if_pos h1]
    · rw [if_neg h1, decide_eq_true (by omega)]
theorem region_f (s : ByteArray) (hs : s.size < 9223372036854775807) : Ev (fun k => tag_region.f k s) (regn (L s)) := by
  unfold tag_region.f regn
  refine Ev.bind (letters_f s 2 2 hs) ?_
  cases lets (L s) 2 2 with
  | true => simpa using Ev.now _
  | false => simpa using Ev.bind (numerals_f s hs) (Ev.now _)
theorem signs_f (s : ByteArray) (lo hi : Nat) (hs : s.size < 9223372036854775807) : Ev (fun k => tag_signs.f k s (lo : Int) (hi : Int)) (sgns (L s) lo hi) := by
  unfold tag_signs.f sgns
  refine ev_all (L s) isS _ (fun k i => tag_signs.l0 k s (lo : Int) (hi : Int) (s.size : Int) (i : Int)) ?_ ?_ ?_
  · refine Ev.step (f := fun _ => some (decide (lo ≤ s.size) && decide (s.size ≤ hi))) (fun k => ?_) (by rw [L_len]; exact Ev.now _)
    simp only [tag_signs.l0]
    rw [L_len, if_neg (by omega)]
    exact end_int s.size lo hi
  · intro i c h hc hp r hr
    obtain ⟨hbt, hlt⟩ := bt_c h hc
    refine Ev.step (f := fun k => tag_signs.j1 k s lo hi s.size i false) (fun k => ?_) (Ev.step (f := fun k => tag_signs.l0 k s (lo : Int) (hi : Int) (s.size : Int) ((i + 1 : Nat) : Int)) (fun k => ?_) hr)
    · simp only [tag_signs.l0]
      rw [if_pos (by omega), if_pos (by omega), if_pos (by omega), hbt]
      have ho := or32 c
      cases hL : isL c with
      | true =>
        obtain ⟨h1, h2⟩ := ho.1 hL
        rw [if_neg h1, if_neg h2]
      | false =>
        have hd : 48 ≤ c.toNat ∧ c.toNat ≤ 57 := by simpa [isS, hL, isD] using hp
        by_cases h1 : Go.bits .or .u8 (c.toNat : Int) 32 < 97
        · rw [if_pos h1, if_neg (by omega), decide_eq_false (by omega)]
        · rw [if_neg h1]
          by_cases h2 : Go.bits .or .u8 (c.toNat : Int) 32 > 122
          · rw [if_pos h2, if_neg (by omega), decide_eq_false (by omega)]
          · rw [if_neg h2]
    · simp only [tag_signs.j1]
      rw [if_neg (by simp), next64 hs hlt]
  · intro i c h hc hp
    obtain ⟨hbt, hlt⟩ := bt_c h hc
    have hL : isL c = false := by cases h : isL c <;> simp_all [isS]
    have hd : ¬ (48 ≤ c.toNat ∧ c.toNat ≤ 57) := by simpa [isS, hL, isD] using hp
    have hn := fun h => (by simpa [hL] using (or32 c).2 h : False)
    refine Ev.step (f := fun k => tag_signs.j1 k s lo hi s.size i true) (fun k => ?_) (Ev.step (f := fun k => some false) (fun k => by simp [tag_signs.j1]) (Ev.now _))
    simp only [tag_signs.l0]
    rw [if_pos (by omega), if_pos (by omega), if_pos (by omega), hbt]
    have inner : (if (c.toNat : Int) < 48 then tag_signs.j1 k s lo hi s.size i true else tag_signs.j1 k s lo hi s.size i (decide ((c.toNat : Int) > 57))) = tag_signs.j1 k s lo hi s.size i true := by
      by_cases h3 : (c.toNat : Int) < 48
      · rw [if_pos h3]
      · rw [if_neg h3, decide_eq_true (by omega)]
    by_cases h1 : Go.bits .or .u8 (c.toNat : Int) 32 < 97
    · rw [if_pos h1, inner]
    · rw [if_neg h1, if_pos (Classical.byContradiction fun h2 => hn ⟨h1, h2⟩), inner]
theorem headD_zero (l : Bs) (h : 0 < l.length) : l.headD 0 = l[0] := by
  cases l with
  | nil => simp at h
  | cons a r => rfl
theorem variant_f (s : ByteArray) (hs : s.size < 9223372036854775807) : Ev (fun k => tag_variant.f k s) (vart (L s)) := by
  unfold tag_variant.f vart
  refine Ev.bind (signs_f s 5 8 hs) ?_
  cases h5 : sgns (L s) 5 8 with
  | true => simpa using Ev.now _
  | false =>
    simp only [Bool.false_eq_true, if_false, Bool.false_or]
    refine Ev.bind (signs_f s 4 4 hs) ?_
    cases h4 : sgns (L s) 4 4 with
    | false => simpa using Ev.now _
    | true =>
      have hlen : s.size = 4 := by
        have : (L s).length = 4 := by
          unfold sgns at h4
          simp only [Bool.and_eq_true, decide_eq_true_eq] at h4
          omega
        rw [← L_len]; exact this
      have hb := bt_L (s := s) (i := 0) (by omega)
      have hhd : (L s).headD 0 = (L s)[0]'(by rw [L_len]; omega) := headD_zero _ _
      simp only [if_true, Bool.true_and]
      rw [if_pos (by omega), show bt s 0 = _ from hb, hhd]
      unfold isD
      by_cases h1 : ((L s)[0]'(by rw [L_len]; omega)).toNat ≥ 48
      · rw [if_pos (by omega)]
        refine Ev.congr (f := fun _ => some (decide (48 ≤ ((L s)[0]'(by rw [L_len]; omega)).toNat) && decide (((L s)[0]'(by rw [L_len]; omega)).toNat ≤ 57))) (fun k => ?_) (Ev.now _)
        rw [decide_eq_true h1, Bool.true_and, Option.some.injEq, Bool.eq_iff_iff]
        simp; omega
      · rw [if_neg (by omega)]
        refine Ev.congr (f := fun _ => some false) (fun k => rfl) ?_
        rw [decide_eq_false h1, Bool.false_and]
        exact Ev.now _
end Go.Proofs.YtphjhbppjakocaaGreatDoor.Pl
namespace Go.Proofs.YtphjhbppjakocaaGreatDoor.Pl
open Go.RowKit Go.Proofs.YtphjhbppjakocaaGreatDoorW.PrintWords Go.Proofs.YtphjhbppjakocaaGreatDoor.PTag
set_option linter.unusedVariables false
theorem letter_f (c : UInt8) : idiomref07_letter.f (c.toNat : Int) = some (isL c) := by
  unfold idiomref07_letter.f isL
  by_cases h1 : c.toNat ≥ 97
  · rw [if_pos (by omega)]
    by_cases h2 : c.toNat ≤ 122
    · rw [if_pos (by omega)]; simp [h1, h2]
    · rw [if_neg (by omega), if_pos (by omega)]
      have : ¬ c.toNat ≤ 90 := by omega
      simp [h2, this]; omega
  · rw [if_neg (by omega)]
    by_cases h2 : c.toNat ≥ 65
    · rw [if_pos (by omega)]; simp [h1, h2]; omega
    · rw [if_neg (by omega)]; simp [h1, h2]
theorem digit_f (c : UInt8) : idiomref01_Digit.f (c.toNat : Int) = some (isD c) := by
  unfold idiomref01_Digit.f isD
  by_cases h1 : c.toNat ≥ 48
  · rw [if_pos (by omega)]; simp [h1]; omega
  · rw [if_neg (by omega)]; simp [h1]
theorem rletters_f (s : ByteArray) (n : Nat) (hs : s.size < 9223372036854775807) : Ev (fun k => idiomref07_letters.f k s (n : Int)) (lets (L s) n n) := by
  unfold idiomref07_letters.f lets
  refine ev_all (L s) isL _ (fun k i => idiomref07_letters.l0 k s (n : Int) (i : Int)) ?_ ?_ ?_
  · refine Ev.step (f := fun _ => some (decide (n ≤ s.size) && decide (s.size ≤ n))) (fun k => ?_) (by rw [L_len]; exact Ev.now _)
    simp only [idiomref07_letters.l0]
    rw [L_len, if_neg (by omega), Option.some.injEq, Bool.eq_iff_iff]
    simp; omega
  · intro i c h hc hp r hr
    obtain ⟨hbt, hlt⟩ := bt_c h hc
    refine Ev.step (f := fun k => idiomref07_letters.l0 k s (n : Int) ((i + 1 : Nat) : Int)) (fun k => ?_) hr
    simp only [idiomref07_letters.l0]
    rw [if_pos (by omega), if_pos (by omega), hbt, letter_f, hp]
    simp only [Option.bind_some, if_true]
    rw [next64 hs hlt]
  · intro i c h hc hp
    obtain ⟨hbt, hlt⟩ := bt_c h hc
    refine Ev.step (f := fun k => some false) (fun k => ?_) (Ev.now _)
    simp only [idiomref07_letters.l0]
    rw [if_pos (by omega), if_pos (by omega), hbt, letter_f, hp]
    simp
theorem lang_f (s : ByteArray) (hs : s.size < 9223372036854775807) : Ev (fun k => idiomref07_lang.f k s) (lets (L s) 2 3) := by
  have e : lets (L s) 2 3 = (lets (L s) 2 2 || lets (L s) 3 3) := by
    unfold lets
    cases (L s).all isL with
    | false => simp
    | true => rw [Bool.eq_iff_iff]; simp; omega
  rw [e]
  unfold idiomref07_lang.f
  refine Ev.bind (rletters_f s 2 hs) ?_
  cases lets (L s) 2 2 with
  | true => simpa using Ev.now _
  | false => simpa using Ev.bind (rletters_f s 3 hs) (Ev.now _)
theorem script_f (s : ByteArray) (hs : s.size < 9223372036854775807) : Ev (fun k => idiomref07_script.f k s) (lets (L s) 4 4) := by
  unfold idiomref07_script.f
  exact Ev.bind (rletters_f s 4 hs) (Ev.now _)
theorem rregion_f (s : ByteArray) (hs : s.size < 9223372036854775807) : Ev (fun k => idiomref07_region.f k s) (regn (L s)) := by
  unfold idiomref07_region.f regn
  refine Ev.bind (rletters_f s 2 hs) ?_
  cases lets (L s) 2 2 with
  | true => simpa using Ev.now _
  | false =>
    simp only [Bool.false_eq_true, if_false, Bool.false_or]
    by_cases h3 : s.size = 3
    · obtain ⟨a, b, c, hl⟩ : ∃ a b c, L s = [a, b, c] := by
        have hlen := L_len s
        rw [h3] at hlen
        match hh : L s, hlen with
        | [a, b, c], _ => exact ⟨a, b, c, rfl⟩
      have b0 : bt s 0 = (a.toNat : Int) := by have := bt_L (s := s) (i := 0) (by omega); simp only [hl] at this; exact this
      have b1 : bt s 1 = (b.toNat : Int) := by have := bt_L (s := s) (i := 1) (by omega); simp only [hl] at this; exact this
      have b2 : bt s 2 = (c.toNat : Int) := by have := bt_L (s := s) (i := 2) (by omega); simp only [hl] at this; exact this
      refine Ev.congr (f := fun _ => some (nums (L s))) (fun k => ?_) (Ev.now _)
      rw [if_pos (by omega), if_pos (by omega), b0, digit_f, b1, digit_f, b2, digit_f, hl]
      simp only [Option.bind_some, nums, List.all_cons, List.all_nil, List.length_cons, List.length_nil]
      cases isD a <;> cases isD b <;> simp <;> omega
    · refine Ev.congr (f := fun _ => some false) (fun k => if_neg (by omega)) ?_
      have : nums (L s) = false := by unfold nums; rw [L_len]; simp [h3]
      rw [this]; exact Ev.now _
theorem rsigns_f (s : ByteArray) (lo hi : Nat) (hs : s.size < 9223372036854775807) : Ev (fun k => idiomref07_signs.f k s (lo : Int) (hi : Int)) (sgns (L s) lo hi) := by
  unfold idiomref07_signs.f sgns
  refine ev_all (L s) isS _ (fun k i => idiomref07_signs.l0 k s (lo : Int) (hi : Int) (i : Int)) ?_ ?_ ?_
  · refine Ev.step (f := fun _ => some (decide (lo ≤ s.size) && decide (s.size ≤ hi))) (fun k => ?_) (by rw [L_len]; exact Ev.now _)
    simp only [idiomref07_signs.l0]
    rw [L_len, if_neg (by omega)]
    exact end_int s.size lo hi
  · intro i c h hc hp r hr
    obtain ⟨hbt, hlt⟩ := bt_c h hc
    refine Ev.step (f := fun k => idiomref07_signs.j1 k s lo hi i false) (fun k => ?_) (Ev.step (f := fun k => idiomref07_signs.l0 k s (lo : Int) (hi : Int) ((i + 1 : Nat) : Int)) (fun k => ?_) hr)
    · simp only [idiomref07_signs.l0]
      rw [if_pos (by omega), if_pos (by omega), hbt, letter_f, digit_f]
      unfold isS at hp
      cases hL : isL c with
      | true => simp
      | false => rw [hL] at hp; simp at hp; simp [hp]
    · simp only [idiomref07_signs.j1]
      rw [if_neg (by simp), next64 hs hlt]
  · intro i c h hc hp
    obtain ⟨hbt, hlt⟩ := bt_c h hc
    have hL : isL c = false := by cases h : isL c <;> simp_all [isS]
    have hD : isD c = false := by simpa [isS, hL] using hp
    refine Ev.step (f := fun k => idiomref07_signs.j1 k s lo hi i true) (fun k => ?_) (Ev.step (f := fun k => some false) (fun k => by simp [idiomref07_signs.j1]) (Ev.now _))
    simp only [idiomref07_signs.l0]
    rw [if_pos (by omega), if_pos (by omega), hbt, letter_f, digit_f, hL, hD]
    simp
theorem rvariant_f (s : ByteArray) (hs : s.size < 9223372036854775807) : Ev (fun k => idiomref07_variant.f k s) (vart (L s)) := by
  unfold idiomref07_variant.f vart
  refine Ev.bind (rsigns_f s 5 8 hs) ?_
  cases h5 : sgns (L s) 5 8 with
  | true => simpa using Ev.now _
  | false =>
    simp only [Bool.false_eq_true, if_false, Bool.false_or]
    refine Ev.bind (rsigns_f s 4 4 hs) ?_
    cases h4 : sgns (L s) 4 4 with
    | false => simpa using Ev.now _
    | true =>
      have hlen : s.size = 4 := by
        have : (L s).length = 4 := by
          unfold sgns at h4
          simp only [Bool.and_eq_true, decide_eq_true_eq] at h4
          omega
        rw [← L_len]; exact this
      have hb := bt_L (s := s) (i := 0) (by omega)
      have hhd : (L s).headD 0 = (L s)[0]'(by rw [L_len]; omega) := headD_zero _ _
      simp only [if_true, Bool.true_and]
      rw [if_pos (by omega), show bt s 0 = _ from hb, hhd, digit_f]
      exact Ev.now _
def lowB : UInt8 → UInt8 := tag_lower.g
def upB : UInt8 → UInt8 := tag_upper.g
def low (s : ByteArray) : ByteArray := S ((L s).map lowB)
def upp (s : ByteArray) : ByteArray := S ((L s).map upB)
theorem low_size (s : ByteArray) : (low s).size = s.size := by unfold low; rw [S_size, List.length_map, L_len]
theorem upp_size (s : ByteArray) : (upp s).size = s.size := by unfold upp; rw [S_size, List.length_map, L_len]
theorem lower_f (s : ByteArray) (hs : s.size < 9223372036854775807) : tag_lower.f s = some (low s) := by unfold tag_lower.f; rw [if_pos hs]; rfl
theorem small_f (s : ByteArray) (hs : s.size < 9223372036854775807) : idiomref07_Small.f s = some (low s) := by unfold idiomref07_Small.f; rw [if_pos hs]; rfl
theorem upper_f (s : ByteArray) (hs : s.size < 9223372036854775807) : tag_upper.f s = some (upp s) := by unfold tag_upper.f; rw [if_pos hs]; rfl
theorem great_f (s : ByteArray) (hs : s.size < 9223372036854775807) : idiomref07_great.f s = some (upp s) := by unfold idiomref07_great.f; rw [if_pos hs]; rfl
def titl (s : ByteArray) : ByteArray := upp (s.extract 0 1) ++ low (s.extract 1 s.size)
theorem ext_size (s : ByteArray) (a b : Nat) : (s.extract a b).size = min b s.size - a := by simp
theorem title_f (s : ByteArray) (hs : s.size < 9223372036854775807) (h1 : 1 ≤ s.size) : tag_title.f s = some (titl s) := by
  have e1 : (s.extract 0 1).size ≤ s.size := by rw [ext_size]; omega
  have e2 : (s.extract 1 s.size).size + (s.extract 0 1).size ≤ s.size := by rw [ext_size, ext_size]; omega
  unfold tag_title.f
  rw [if_pos (by omega), if_pos (by omega), upper_f _ (by omega), lower_f _ (by omega)]
  simp only [Option.bind_some]
  rw [upp_size, low_size, if_pos (by omega)]
  rfl
theorem rtitle_f (s : ByteArray) (hs : s.size < 9223372036854775807) : idiomref07_title.f s = some (if s.size = 0 then ⟨#[]⟩ else titl s) := by
  unfold idiomref07_title.f
  rw [toList_L]
  by_cases h0 : s.size = 0
  · rw [if_pos h0, if_pos (List.length_eq_zero_iff.1 (by rw [L_len]; exact h0))]
  · have e1 : (s.extract 0 1).size ≤ s.size := by rw [ext_size]; omega
    have e2 : (s.extract 1 s.size).size + (s.extract 0 1).size ≤ s.size := by rw [ext_size, ext_size]; omega
    rw [if_neg (fun h => h0 (by rw [← L_len, h]; rfl)), if_neg h0, if_pos (by omega), if_pos (by omega), great_f _ (by omega), small_f _ (by omega)]
    simp only [Option.bind_some]
    rw [upp_size, low_size, if_pos (by omega)]
    rfl
end Go.Proofs.YtphjhbppjakocaaGreatDoor.Pl
namespace Go.Proofs.YtphjhbppjakocaaGreatDoor.Pl
open Go.RowKit Go.Proofs.YtphjhbppjakocaaGreatDoorW.PrintWords Go.Proofs.YtphjhbppjakocaaGreatDoor.PTag
set_option linter.unusedVariables false
def cutL (c : UInt8) : Bs → List Bs
  | [] => [[]]
  | x :: l => if x = c then [] :: cutL c l else (match cutL c l with | [] => [[x]] | h :: t => (x :: h) :: t)
theorem cutL_ne (c : UInt8) : ∀ l : Bs, ∃ h t, cutL c l = h :: t
  | [] => ⟨_, _, rfl⟩
  | x :: l => by
    obtain ⟨h, t, e⟩ := cutL_ne c l
    unfold cutL
    rw [e]
    split
    · exact ⟨_, _, rfl⟩
    · exact ⟨_, _, rfl⟩
theorem splitK_cut (c : UInt8) : ∀ l : Bs, Lib.splitK [c] 0 (l.count c) l = cutL c l
  | [] => rfl
  | x :: l => by
    have ih := splitK_cut c l
    by_cases hx : x = c
    · subst hx
      have hi : Lib.index (x :: l) [x] = 0 := by rw [Lib.index_one]; simp [Lib.indexByte]
      rw [List.count_cons_self]
      unfold Lib.splitK cutL
      rw [hi, if_neg (by decide), if_pos rfl, ← ih]
      simp
    · rw [List.count_cons_of_ne (fun e => hx e)]
      unfold cutL
      rw [if_neg hx, ← ih]
      cases hk : l.count c with
      | zero => simp [Lib.splitK]
      | succ k =>
        have hm : c ∈ l := List.count_pos_iff.1 (by omega)
        have h1 : Lib.index l [c] ≠ -1 := by
          intro h0
          rw [Lib.index_one] at h0
          obtain ⟨n, hn, he⟩ := List.getElem_of_mem hm
          exact Lib.indexByte_none h0 n (by rw [List.getElem?_eq_getElem hn, he])
        have hge := Lib.index_ge l [c]
        have h2 : Lib.index (x :: l) [c] = Lib.index l [c] + 1 := by
          rw [Lib.index_one] at h1 ⊢
          rw [Lib.index_one]
          show (if (x == c) = true then (0 : Int) else if (Lib.indexByte l c == -1) = true then -1 else Lib.indexByte l c + 1) = _
          rw [if_neg (by simpa using hx), if_neg (by simpa using h1)]
        unfold Lib.splitK
        rw [h2, if_neg (by simp; omega), if_neg (by simpa using h1)]
        obtain ⟨n, hn⟩ : ∃ n : Nat, Lib.index l [c] = n := ⟨(Lib.index l [c]).toNat, by omega⟩
        rw [hn]
        have e1 : ((n : Int) + 1).toNat = n + 1 := by omega
        simp [e1]
def valP (s : ByteArray) : Bool := decide (L s = []) || (decide (L s ≠ [116, 114, 117, 101]) && decide (low s = s) && (cutL 45 (L s)).all (fun l => sgns l 3 8))
theorem ev_row {α : Type} (p : α → Bool) (e : Bool) (g : Nat → Nat → Option Bool) : ∀ (xs : List α) (i : Nat), Ev (fun k => g k (i + xs.length)) e →
    (∀ j x, xs[j]? = some x → p x = true → ∀ b, Ev (fun k => g k (i + j + 1)) b → Ev (fun k => g k (i + j)) b) → (∀ j x, xs[j]? = some x → p x = false → Ev (fun k => g k (i + j)) false) → Ev (fun k => g k i) (xs.all p && e) := by
  intro xs
  induction xs with
  | nil => intro i h _ _; simpa using h
  | cons x xs ih =>
    intro i h ht hf
    have hi := ih (i + 1) (by rw [List.length_cons] at h; rw [show i + 1 + xs.length = i + (xs.length + 1) by omega]; exact h)
      (fun j y hy hp b hb => by have := ht (j + 1) y (by simpa using hy) hp b; rw [show i + (j + 1) + 1 = i + 1 + j + 1 by omega, show i + (j + 1) = i + 1 + j by omega] at this; exact this hb)
      (fun j y hy hp => by have := hf (j + 1) y (by simpa using hy) hp; rw [show i + (j + 1) = i + 1 + j by omega] at this; exact this)
    rw [List.all_cons]
    cases hp : p x with
    | true => rw [Bool.true_and]; exact ht 0 x rfl hp _ hi
    | false => rw [Bool.false_and, Bool.false_and]; exact hf 0 x rfl hp
theorem rdOf_at {xs : List ByteArray} {j : Nat} {x : ByteArray} (h : xs[j]? = some x) : j < xs.length ∧ rdOf ByteArray.empty xs (j : Int) = x := by
  have hj : j < xs.length := by
    rcases Nat.lt_or_ge j xs.length with h1 | h1
    · exact h1
    · rw [List.getElem?_eq_none h1] at h; cases h
  exact ⟨hj, by simp [rdOf, h]⟩
theorem valued_l (xs : List ByteArray) (hn : xs.length ≤ 1048577) (hz : ∀ x ∈ xs, x.size ≤ 1048576) : Ev (fun k => tag_valued.l0 k xs (xs.length : Int) 0) (xs.all (fun x => sgns (L x) 3 8)) := by
  have := ev_row (fun x => sgns (L x) 3 8) true (fun k i => tag_valued.l0 k xs (xs.length : Int) (i : Int)) xs 0 ?_ ?_ ?_
  · simpa using this
  · refine Ev.step (f := fun _ => some true) (fun k => ?_) (Ev.now _)
    simp only [tag_valued.l0]
    rw [if_neg (by omega)]
  · intro j x hx hp b hb
    obtain ⟨h1, h2⟩ := rdOf_at hx
    rw [Nat.zero_add] at hb ⊢
    refine Ev.step (f := fun k => (tag_signs.f k x 3 8).bind fun t => if t = true then tag_valued.l0 k xs (xs.length : Int) ((j + 1 : Nat) : Int) else some false) (fun k => ?_) ?_
    · simp only [tag_valued.l0]
      rw [if_pos (by omega), if_pos (by omega), if_pos (by omega), h2, w64 (by omega)]
      rfl
    · refine Ev.bind (signs_f x 3 8 (by have := hz x (List.mem_of_getElem? hx); omega)) ?_
      rw [hp]
      exact hb
  · intro j x hx hp
    obtain ⟨h1, h2⟩ := rdOf_at hx
    rw [Nat.zero_add]
    refine Ev.step (f := fun k => (tag_signs.f k x 3 8).bind fun t => if t = true then tag_valued.l0 k xs (xs.length : Int) ((j + 1 : Nat) : Int) else some false) (fun k => ?_) ?_
    · simp only [tag_valued.l0]
      rw [if_pos (by omega), if_pos (by omega), if_pos (by omega), h2, w64 (by omega)]
      rfl
    · refine Ev.bind (signs_f x 3 8 (by have := hz x (List.mem_of_getElem? hx); omega)) ?_
      rw [hp]
      exact Ev.now _
theorem splitB_small (sep : ByteArray) : ∀ (k : Nat) (s : ByteArray), ∀ p ∈ Lib.splitB sep 0 k s, p.size ≤ s.size
  | 0, s, p, hp => by obtain rfl := List.mem_singleton.1 hp; exact Nat.le_refl _
  | k + 1, s, p, hp => by
    unfold Lib.splitB at hp
    split at hp
    · obtain rfl := List.mem_singleton.1 hp; exact Nat.le_refl _
    · rcases List.mem_cons.1 hp with rfl | h
      · rw [ext_size]; omega
      · have := splitB_small sep k _ p h
        rw [ext_size] at this; omega
theorem all_map (xs : List ByteArray) (p : Bs → Bool) : xs.all (fun x => p (L x)) = (xs.map L).all p := by rw [List.all_map]; rfl
theorem valued_f (s : ByteArray) (hs : s.size ≤ 1048576) : Ev (fun k => tag_valued.f k s) (valP s) := by
  unfold tag_valued.f valP
  rw [toList_L]
  by_cases h0 : L s = []
  · rw [decide_eq_true h0]; simp only [if_pos h0]; exact Ev.now _
  · rw [decide_eq_false h0, Bool.false_or]; simp only [if_neg h0]
    by_cases h1 : L s = [116, 114, 117, 101]
    · simp only [if_pos h1]
      have : decide (L s ≠ [116, 114, 117, 101]) = false := decide_eq_false (fun h => h h1)
      rw [this, Bool.false_and, Bool.false_and]
      exact Ev.step (f := fun k => some false) (fun k => by simp [tag_valued.j0]) (Ev.now _)
    · simp only [if_neg h1]
      rw [decide_eq_true h1, Bool.true_and, lower_f s (by omega)]
      simp only [Option.bind_some, toList_L]
      by_cases h2 : low s = s
      · have e1 : (L s != L (low s)) = false := by rw [h2]; simp
        rw [e1, decide_eq_true h2, Bool.true_and]
        refine Ev.step (f := fun k => (strings_Split.f s ⟨#[45]⟩).bind fun t => tag_valued.l0 k t (t.length : Int) 0) (fun k => by simp only [tag_valued.j0]; rw [if_neg (by simp)]) ?_
        have e2 : strings_Split.f s ⟨#[45]⟩ = some (Lib.splitB ⟨#[45]⟩ 0 (Lib.countB s ⟨#[45]⟩) s) := by
          unfold strings_Split.f
          rw [if_pos (by omega), if_pos (by decide)]
        rw [e2]
        simp only [Option.bind_some]
        have e3 : (Lib.splitB ⟨#[45]⟩ 0 (Lib.countB s ⟨#[45]⟩) s).map L = cutL 45 (L s) := by
          rw [← splitK_cut, ← Lib.count_one]
          exact Lib.splitB_data ⟨#[45]⟩ 0 _ s
        have e4 := all_map (Lib.splitB ⟨#[45]⟩ 0 (Lib.countB s ⟨#[45]⟩) s) (fun l => sgns l 3 8)
        rw [e3] at e4
        rw [← e4]
        refine valued_l _ ?_ (fun x hx => Nat.le_trans (splitB_small _ _ _ x hx) hs)
        have := Lib.splitB_length_le ⟨#[45]⟩ 0 (Lib.countB s ⟨#[45]⟩) s
        have := Lib.countB_le ⟨#[45]⟩ (by decide) s.size s (Nat.le_refl _)
        omega
      · have e1 : (L s != L (low s)) = true := by
          simp only [bne_iff_ne, ne_eq]
          exact fun e => h2 (L_inj e).symm
        rw [e1, decide_eq_false h2, Bool.false_and]
        exact Ev.step (f := fun k => some false) (fun k => by simp [tag_valued.j0]) (Ev.now _)
end Go.Proofs.YtphjhbppjakocaaGreatDoor.Pl
namespace Go.Proofs.YtphjhbppjakocaaGreatDoor.Pl
open Go.RowKit Go.Proofs.YtphjhbppjakocaaGreatDoorW.PrintWords Go.Proofs.YtphjhbppjakocaaGreatDoor.PTag
set_option linter.unusedVariables false
theorem L_ext (s : ByteArray) (a b : Nat) : L (s.extract a b) = ((L s).take b).drop a := by
  simp [L, ByteArray.data_extract, Array.toList_extract, List.drop_take]
theorem getD_L1 {s : ByteArray} {i : Nat} (h : i < s.size) : bt s (i : Int) = (((L s).getD i 0).toNat : Int) := by
  rw [bt_L h, List.getD_eq_getElem?_getD, List.getElem?_eq_getElem (by rw [L_len]; exact h)]; rfl
def pc1 (s : ByteArray) : Nat → Nat → Nat → List ByteArray
  | 0, i, b => [s.extract b i]
  | d + 1, i, b => if (L s).getD i 0 = 45 then s.extract b i :: pc1 s d (i + 1) (i + 1) else pc1 s d (i + 1) b
def pp1 (s : ByteArray) : Nat → Nat → Nat → List Int
  | 0, i, b => [(b : Int)]
  | d + 1, i, b => if (L s).getD i 0 = 45 then (b : Int) :: pp1 s d (i + 1) (i + 1) else pp1 s d (i + 1) b
abbrev D1 : ByteArray := ⟨#[45]⟩
theorem d1_0 : bt D1 0 = 45 := by decide
theorem p1_j2 (s : ByteArray) (hs : s.size ≤ 1048576) (xs : List ByteArray) (ys : List Int) (i b : Nat) (x : Bool) (hx : xs.length ≤ i) (hy : ys.length ≤ i) (hb : b ≤ i) (hi : i ≤ s.size) (n : Int) :
    (fun k => idiomref07_Pieces.j2 (k + 1) s D1 xs ys (b : Int) (i : Int) x n false) = fun k => if x = true then idiomref07_Pieces.l0 k s D1 (xs ++ [s.extract b i]) (ys ++ [(b : Int)]) ((i + 1 : Nat) : Int) ((i + 1 : Nat) : Int) else idiomref07_Pieces.l0 k s D1 xs ys (b : Int) ((i + 1 : Nat) : Int) := by
  funext k
  simp only [idiomref07_Pieces.j2]
  rw [if_neg (by simp), w64 (by omega)]
  cases x with
  | true =>
    rw [if_pos rfl, if_pos rfl, if_pos (by omega), if_pos (by omega), if_pos (by omega), if_pos (by omega), if_pos (by omega)]
    rfl
  | false => rw [if_neg (by simp), if_neg (by simp)]; rfl
theorem p1_in (s : ByteArray) (hs : s.size ≤ 1048576) (xs : List ByteArray) (ys : List Int) (i b : Nat) (c : UInt8) (hc : c = (L s).getD i 0) (hlt : i < s.size) (hx : xs.length ≤ i) (hy : ys.length ≤ i) (hb : b ≤ i) {r : List ByteArray × List Int}
    (h : Ev (fun k => if c = 45 then idiomref07_Pieces.l0 k s D1 (xs ++ [s.extract b i]) (ys ++ [(b : Int)]) ((i + 1 : Nat) : Int) ((i + 1 : Nat) : Int) else idiomref07_Pieces.l0 k s D1 xs ys (b : Int) ((i + 1 : Nat) : Int)) r) :
    Ev (fun k => idiomref07_Pieces.l1 k s D1 xs ys (b : Int) (i : Int) false 0) r := by
  have hbt : bt s (i : Int) = (c.toNat : Int) := by rw [hc]; exact getD_L1 hlt
  have hz : ((D1.size : Nat) : Int) = 1 := rfl
  have hq : ((c.toNat : Int) == 45) = decide (c = 45) := by
    rw [Bool.eq_iff_iff]
    simp only [beq_iff_eq, decide_eq_true_eq]
    constructor
    · intro h; exact UInt8.toNat_inj.1 (by show c.toNat = 45; omega)
    · intro h; subst h; rfl
  refine Ev.step (f := fun k => idiomref07_Pieces.j2 k s D1 xs ys (b : Int) (i : Int) false 0 true) (fun k => ?_) (Ev.step (f := fun k => idiomref07_Pieces.l1 k s D1 xs ys (b : Int) (i : Int) (decide (c = 45)) 1) (fun k => ?_) (Ev.step (f := fun k => idiomref07_Pieces.j2 k s D1 xs ys (b : Int) (i : Int) (decide (c = 45)) 1 false) (fun k => ?_) ?_))
  · simp only [idiomref07_Pieces.l1]
    rw [hz, if_pos (by omega)]; rfl
  · simp only [idiomref07_Pieces.j2]
    rw [if_pos trivial, if_pos (by omega), if_pos (by omega), if_pos (by omega), hz, if_pos (by omega), hbt, d1_0, hq, show wrap64 (0 + 1) = 1 from w64 (by omega)]
  · simp only [idiomref07_Pieces.l1]
    rw [hz, if_neg (by omega)]
  · refine Ev.step (f := fun k => if decide (c = 45) = true then idiomref07_Pieces.l0 k s D1 (xs ++ [s.extract b i]) (ys ++ [(b : Int)]) ((i + 1 : Nat) : Int) ((i + 1 : Nat) : Int) else idiomref07_Pieces.l0 k s D1 xs ys (b : Int) ((i + 1 : Nat) : Int)) (fun k => congrFun (p1_j2 s hs xs ys i b _ hx hy hb (by omega) 1) k) ?_
    simpa using h
theorem p1_l (s : ByteArray) (hs : s.size ≤ 1048576) : ∀ (d i b : Nat) (xs : List ByteArray) (ys : List Int), s.size - i = d → i ≤ s.size → b ≤ i → xs.length ≤ i → ys.length ≤ i →
    Ev (fun k => idiomref07_Pieces.l0 k s D1 xs ys (b : Int) (i : Int)) (xs ++ pc1 s d i b, ys ++ pp1 s d i b) := by
  intro d
  induction d with
  | zero =>
    intro i b xs ys hd hi hb hx hy
    have : i = s.size := by omega
    subst this
    have hz : ((D1.size : Nat) : Int) = 1 := rfl
    refine Ev.step (f := fun k => idiomref07_Pieces.l1 k s D1 xs ys (b : Int) (s.size : Int) true 0) (fun k => ?_) (Ev.step (f := fun k => idiomref07_Pieces.j2 k s D1 xs ys (b : Int) (s.size : Int) true 0 false) (fun k => ?_) (Ev.step (f := fun k => idiomref07_Pieces.l0 k s D1 (xs ++ [s.extract b s.size]) (ys ++ [(b : Int)]) ((s.size + 1 : Nat) : Int) ((s.size + 1 : Nat) : Int)) (fun k => ?_) (Ev.step (f := fun _ => some (xs ++ [s.extract b s.size], ys ++ [(b : Int)])) (fun k => ?_) (Ev.now _))))
    · simp only [idiomref07_Pieces.l0]
      rw [if_pos (by omega)]; simp
    · simp only [idiomref07_Pieces.l1]
      rw [hz, if_pos (by omega)]; rfl
    · have := congrFun (p1_j2 s hs xs ys s.size b true hx hy hb (by omega) 0) k
      rw [if_pos rfl] at this
      exact this
    · simp only [idiomref07_Pieces.l0]
      rw [if_neg (by omega)]
  | succ d ih =>
    intro i b xs ys hd hi hb hx hy
    have hlt : i < s.size := by omega
    refine Ev.step (f := fun k => idiomref07_Pieces.l1 k s D1 xs ys (b : Int) (i : Int) false 0) (fun k => ?_) (p1_in s hs xs ys i b _ rfl hlt hx hy hb ?_)
    · simp only [idiomref07_Pieces.l0]
      have : ((i : Int) == (s.size : Int)) = false := by simp; omega
      rw [if_pos (by omega), this]
    · unfold pc1 pp1
      by_cases hc : (L s).getD i 0 = 45
      · simp only [if_pos hc]
        have := ih (i + 1) (i + 1) (xs ++ [s.extract b i]) (ys ++ [(b : Int)]) (by omega) (by omega) (by omega) (by simp; omega) (by simp; omega)
        rw [List.append_assoc, List.append_assoc] at this
        exact this
      · simp only [if_neg hc]
        exact ih (i + 1) b xs ys (by omega) (by omega) (by omega) (by omega) (by omega)
theorem pieces1_f (s : ByteArray) (hs : s.size ≤ 1048576) : Ev (fun k => idiomref07_Pieces.f k s D1) (pc1 s s.size 0 0, pp1 s s.size 0 0) := by
  have := p1_l s hs s.size 0 0 [] [] (by omega) (by omega) (by omega) (by simp) (by simp)
  unfold idiomref07_Pieces.f
  simpa using this
def glue (p : Bs) : List Bs → List Bs
  | [] => [p]
  | h :: t => (p ++ h) :: t
theorem glue_nil (l : Bs) : glue [] (cutL 45 l) = cutL 45 l := by
  obtain ⟨h, t, e⟩ := cutL_ne 45 l
  rw [e]; rfl
theorem pc1_cut (s : ByteArray) : ∀ (d i b : Nat), s.size - i = d → i ≤ s.size → b ≤ i → (pc1 s d i b).map L = glue (((L s).take i).drop b) (cutL 45 ((L s).drop i)) := by
  intro d
  induction d with
  | zero =>
    intro i b hd hi hb
    have e : (L s).drop i = [] := List.drop_eq_nil_of_le (by rw [L_len]; omega)
    rw [e]
    show [L (s.extract b i)] = [((L s).take i).drop b ++ []]
    rw [L_ext, List.append_nil]
  | succ d ih =>
    intro i b hd hi hb
    have hlt : i < (L s).length := by rw [L_len]; omega
    have hg : (L s).getD i 0 = (L s)[i] := by rw [List.getD_eq_getElem?_getD, List.getElem?_eq_getElem hlt]; rfl
    have e : (L s).drop i = (L s)[i] :: (L s).drop (i + 1) := List.drop_eq_getElem_cons hlt
    rw [e]
    unfold pc1 cutL
    rw [hg]
    by_cases hc : (L s)[i] = 45
    · rw [if_pos hc, if_pos hc, List.map_cons, ih (i + 1) (i + 1) (by omega) (by omega) (Nat.le_refl _), L_ext]
      have e2 : ((L s).take (i + 1)).drop (i + 1) = [] := List.drop_eq_nil_of_le (by rw [List.length_take]; omega)
      rw [e2, glue_nil]
      show _ = (((L s).take i).drop b ++ []) :: _
      rw [List.append_nil]
    · rw [if_neg hc, if_neg hc, ih (i + 1) b (by omega) (by omega) (by omega)]
      rw [List.take_succ_eq_append_getElem hlt, List.drop_append_of_le_length (by rw [List.length_take]; omega)]
      obtain ⟨h, t, e3⟩ := cutL_ne 45 ((L s).drop (i + 1))
      rw [e3]
      show (((L s).take i).drop b ++ [(L s)[i]] ++ h) :: t = (((L s).take i).drop b ++ ((L s)[i] :: h)) :: t
      rw [List.append_assoc]; rfl
theorem pc1_small (s : ByteArray) : ∀ (d i b : Nat), ∀ p ∈ pc1 s d i b, p.size ≤ s.size := by
  intro d
  induction d with
  | zero =>
    intro i b p hp
    obtain rfl := List.mem_singleton.1 hp
    rw [ext_size]; omega
  | succ d ih =>
    intro i b p hp
    unfold pc1 at hp
    split at hp
    · rcases List.mem_cons.1 hp with rfl | h
      · rw [ext_size]; omega
      · exact ih _ _ p h
    · exact ih _ _ p hp
theorem pc1_len (s : ByteArray) : ∀ (d i b : Nat), (pc1 s d i b).length ≤ d + 1 := by
  intro d
  induction d with
  | zero => intro i b; simp [pc1]
  | succ d ih =>
    intro i b
    unfold pc1
    split
    · have := ih (i + 1) (i + 1); rw [List.length_cons]; omega
    · have := ih (i + 1) b; omega
theorem rvalue_l (s : ByteArray) (hs : s.size ≤ 1048576) (xs : List ByteArray) (hn : xs.length ≤ 1048577) (hz : ∀ x ∈ xs, x.size ≤ 1048576) :
    Ev (fun k => idiomref07_value.l0 k s xs 0) (xs.all (fun x => sgns (L x) 3 8) && (decide (L s ≠ [116, 114, 117, 101]) && decide (low s = s))) := by
  have := ev_row (fun x => sgns (L x) 3 8) (decide (L s ≠ [116, 114, 117, 101]) && decide (low s = s)) (fun k i => idiomref07_value.l0 k s xs (i : Int)) xs 0 ?_ ?_ ?_
  · simpa using this
  · refine Ev.step (f := fun _ => some (decide (L s ≠ [116, 114, 117, 101]) && decide (low s = s))) (fun k => ?_) (Ev.now _)
    simp only [idiomref07_value.l0]
    rw [if_neg (by omega), toList_L]
    by_cases h1 : L s = [116, 114, 117, 101]
    · rw [if_pos h1, decide_eq_false (fun h => h h1), Bool.false_and]
    · rw [if_neg h1, decide_eq_true h1, Bool.true_and]
      have e : idiomref07_Small.f s = some (low s) := by unfold idiomref07_Small.f; rw [if_pos (by omega)]; rfl
      rw [e]
      simp only [Option.bind_some, toList_L]
      congr 1
      by_cases h2 : low s = s
      · rw [decide_eq_true h2, h2]; simp
      · rw [decide_eq_false h2]
        simp only [beq_eq_false_iff_ne, ne_eq]
        exact fun e => h2 (L_inj e)
  · intro j x hx hp b hb
    obtain ⟨h1, h2⟩ := rdOf_at hx
    rw [Nat.zero_add] at hb ⊢
    refine Ev.step (f := fun k => (idiomref07_signs.f k x 3 8).bind fun t => if t = true then idiomref07_value.l0 k s xs ((j + 1 : Nat) : Int) else some false) (fun k => ?_) ?_
    · simp only [idiomref07_value.l0]
      rw [if_pos (by omega), if_pos (by omega), h2, w64 (by omega)]
      rfl
    · refine Ev.bind (rsigns_f x 3 8 (by have := hz x (List.mem_of_getElem? hx); omega)) ?_
      rw [hp]
      exact hb
  · intro j x hx hp
    obtain ⟨h1, h2⟩ := rdOf_at hx
    rw [Nat.zero_add]
    refine Ev.step (f := fun k => (idiomref07_signs.f k x 3 8).bind fun t => if t = true then idiomref07_value.l0 k s xs ((j + 1 : Nat) : Int) else some false) (fun k => ?_) ?_
    · simp only [idiomref07_value.l0]
      rw [if_pos (by omega), if_pos (by omega), h2, w64 (by omega)]
      rfl
    · refine Ev.bind (rsigns_f x 3 8 (by have := hz x (List.mem_of_getElem? hx); omega)) ?_
      rw [hp]
      exact Ev.now _
theorem value_f (s : ByteArray) (hs : s.size ≤ 1048576) : Ev (fun k => idiomref07_value.f k s) (valP s) := by
  unfold idiomref07_value.f valP
  rw [toList_L]
  by_cases h0 : L s = []
  · rw [decide_eq_true h0]; simp only [if_pos h0]; exact Ev.now _
  · rw [decide_eq_false h0, Bool.false_or]; simp only [if_neg h0]
    refine Ev.bind (pieces1_f s hs) ?_
    have e3 : (pc1 s s.size 0 0).map L = cutL 45 (L s) := by
      rw [pc1_cut s s.size 0 0 (by omega) (by omega) (Nat.le_refl _)]
      exact glue_nil _
    have e4 := all_map (pc1 s s.size 0 0) (fun l => sgns l 3 8)
    rw [e3] at e4
    rw [← e4, Bool.and_comm]
    refine rvalue_l s hs _ ?_ (fun x hx => Nat.le_trans (pc1_small _ _ _ _ x hx) hs)
    have := pc1_len s s.size 0 0
    show (pc1 s s.size 0 0).length ≤ 1048577
    omega
end Go.Proofs.YtphjhbppjakocaaGreatDoor.Pl
namespace Go.Proofs.YtphjhbppjakocaaGreatDoor.Pl
open Go.RowKit Go.Proofs.YtphjhbppjakocaaGreatDoorW.PrintWords Go.Proofs.YtphjhbppjakocaaGreatDoor.PTag
set_option linter.unusedVariables false
abbrev Ke := S39
def rise (pr : Option ByteArray) (v : ByteArray) : Int := match pr with
  | none => 0
  | some p => if p.toList = v.toList then 6 else if Op.bytesLess v.toList p.toList = true then 70 else 0
def vcP : Option ByteArray → List ByteArray → Int
  | _, [] => 0
  | pr, v :: vs => if vart (L v) = true then (if low v = v then (if rise pr v = 0 then vcP (some v) vs else rise pr v) else 70) else 70
def kcP : Option Ke → List Ke → Int
  | _, [] => 0
  | pr, x :: ks => if sgns (L x.f0) 2 2 = true then (if low x.f0 = x.f0 then (if valP x.f1 = true then (if rise (pr.map (·.f0)) x.f0 = 0 then kcP (some x) ks else rise (pr.map (·.f0)) x.f0) else 70) else 70) else 70
def restK (K : List Ke) : Int := if K.length > 64 then 5 else kcP none K
def contP (V : List ByteArray) (K : List Ke) : Int := if V.length > 64 then 5 else if vcP none V = 0 then restK K else vcP none V
def langOk (l : ByteArray) : Bool := decide (L l = []) || (lets (L l) 2 3 && (decide (low l = l) && decide (L l ≠ [117, 110, 100])))
def scrOk (s : ByteArray) : Bool := decide (L s = []) || (lets (L s) 4 4 && decide (titl s = s))
def regOk (r : ByteArray) : Bool := decide (L r = []) || (regn (L r) && decide (upp r = r))
def checkP (l s r : ByteArray) (V : List ByteArray) (K : List Ke) : Int := if langOk l = true then (if scrOk s = true then (if regOk r = true then contP V K else 70) else 70) else 70
def B : Nat := 1048576
structure Sz (l s r : ByteArray) (V : List ByteArray) (K : List Ke) : Prop where
  l : l.size ≤ 1048576
  s : s.size ≤ 1048576
  r : r.size ≤ 1048576
  nV : V.length ≤ 1048576
  nK : K.length ≤ 1048576
  vV : ∀ v ∈ V, v.size ≤ 1048576
  vK : ∀ x ∈ K, x.f0.size ≤ 1048576 ∧ x.f1.size ≤ 1048576
def At {α : Type} (V : List α) (i : Nat) (pr : Option α) (ys : List α) : Prop := V.drop i = ys ∧ (match pr with
  | none => i = 0
  | some p => ∃ j, i = j + 1 ∧ V.drop j = p :: ys)
theorem drop_cons {α : Type} {V : List α} {i : Nat} {y : α} {ys : List α} (h : V.drop i = y :: ys) : i < V.length ∧ V[i]? = some y ∧ V.drop (i + 1) = ys := by
  have hi : i < V.length := Classical.byContradiction fun hc => by rw [List.drop_eq_nil_of_le (by omega)] at h; cases h
  have h2 := List.drop_eq_getElem_cons hi
  rw [h] at h2
  obtain ⟨e1, e2⟩ := List.cons.inj h2
  exact ⟨hi, by rw [List.getElem?_eq_getElem hi, ← e1], e2.symm⟩
theorem At.next {α : Type} {V : List α} {i : Nat} {pr : Option α} {y : α} {ys : List α} (h : At V i pr (y :: ys)) : At V (i + 1) (some y) ys := ⟨(drop_cons h.1).2.2, i, rfl, h.1⟩
theorem At.start {α : Type} (V : List α) : At V 0 none V := ⟨rfl, rfl⟩
theorem rdOf_c {V : List ByteArray} {i : Nat} {y : ByteArray} (h : V[i]? = some y) : rdOf ByteArray.empty V (i : Int) = y := by simp [rdOf, h]
theorem rdK_c {V : List Ke} {i : Nat} {y : Ke} (h : V[i]? = some y) : rd_T39 V (i : Int) = y := by simp [rd_T39, h]
theorem w64_pred (j : Nat) (h : j ≤ 1048576) : wrap64 (((j + 1 : Nat) : Int) - 1) = (j : Int) := by rw [w64 (by omega)]; omega
theorem rising_f (p v : ByteArray) : tag_rising.f p v = some (rise (some p) v) := by
  unfold tag_rising.f
  show _ = some (if p.toList = v.toList then 6 else if Op.bytesLess v.toList p.toList = true then 70 else 0)
  by_cases h1 : p.toList = v.toList
  · rw [if_pos h1, if_pos h1]
  · rw [if_neg h1, if_neg h1]
    split <;> rfl
theorem ne_low (v : ByteArray) : (v.toList != (low v).toList) = !decide (low v = v) := by
  rw [toList_L, toList_L]
  by_cases h : low v = v
  · rw [decide_eq_true h, h]; simp
  · rw [decide_eq_false h]
    simp only [Bool.not_false, bne_iff_ne, ne_eq]
    exact fun e => h (L_inj e).symm
section
variable {l s r : ByteArray} {V : List ByteArray} {K : List Ke} (z : Sz l s r V K)
include z
theorem tj4 {i : Nat} {pr : Option ByteArray} {v : ByteArray} {ys : List ByteArray} (h : At V i pr (v :: ys)) {X : Int} (hX : Ev (fun k => tag_Check.l0 k V (V.length : Int) ((i + 1 : Nat) : Int) l s r V K) X) :
    Ev (fun k => tag_Check.j4 k (i : Int) v V (V.length : Int) (i : Int) false l s r V K) (if rise pr v = 0 then X else rise pr v) := by
  have hn := z.nV
  have hi := (drop_cons h.1).1
  have hw : wrap64 ((i : Int) + 1) = ((i + 1 : Nat) : Int) := w64 (by omega)
  cases pr with
  | none =>
    have h0 : i = 0 := h.2
    subst h0
    show Ev _ X
    refine Ev.step (fun k => ?_) hX
    simp only [tag_Check.j4]
    rw [if_neg (by simp), if_neg (by omega), hw]
  | some p =>
    obtain ⟨j, rfl, hj⟩ := h.2
    have hp := rdOf_c (drop_cons hj).2.1
    have hjl := (drop_cons hj).1
    refine Ev.step (f := fun k => if rise (some p) v = 0 then tag_Check.l0 k V (V.length : Int) ((j + 1 + 1 : Nat) : Int) l s r V K else some (rise (some p) v)) (fun k => ?_) ?_
    · simp only [tag_Check.j4]
      rw [if_neg (by simp), if_pos (by omega), w64_pred j (by omega), if_pos (by omega), if_pos (by omega), hp, rising_f, hw]
      rfl
    · split
      · exact hX
      · exact Ev.now _
theorem tl0 (hK : Ev (fun k => if (K.length : Int) > 64 then some 5 else tag_Check.l1 k K (K.length : Int) 0 l s r V K) (restK K)) : ∀ (ys : List ByteArray) (pr : Option ByteArray) (i : Nat), At V i pr ys →
    Ev (fun k => tag_Check.l0 k V (V.length : Int) (i : Int) l s r V K) (if vcP pr ys = 0 then restK K else vcP pr ys)
  | [], pr, i, h => by
    have hi : V.length ≤ i := List.drop_eq_nil_iff.1 h.1
    show Ev _ (restK K)
    refine Ev.step (fun k => ?_) hK
    simp only [tag_Check.l0]
    rw [if_neg (by omega)]
  | v :: ys, pr, i, h => by
    have ih := tl0 hK ys (some v) (i + 1) h.next
    obtain ⟨hi, hv, _⟩ := drop_cons h.1
    have hz := z.vV v (List.mem_of_getElem? hv)
    have h4 := tj4 z h ih
    refine Ev.step (f := fun k => (tag_variant.f k v).bind fun t => if t = true then (tag_lower.f v).bind fun u => tag_Check.j4 k (i : Int) v V (V.length : Int) (i : Int) (v.toList != u.toList) l s r V K else tag_Check.j4 k (i : Int) v V (V.length : Int) (i : Int) true l s r V K) (fun k => ?_) (Ev.bind (variant_f v (by omega)) ?_)
    · simp only [tag_Check.l0]
      rw [if_pos (by omega), if_pos (by omega), if_pos (by omega), rdOf_c hv]
    · have bad : Ev (fun k => tag_Check.j4 k (i : Int) v V (V.length : Int) (i : Int) true l s r V K) 70 := Ev.step (f := fun _ => some 70) (fun k => by simp [tag_Check.j4]) (Ev.now _)
      unfold vcP
      cases ha : vart (L v) with
      | false => simpa using bad
      | true =>
        simp only [if_true]
        rw [lower_f v (by omega)]
        simp only [Option.bind_some, ne_low]
        by_cases hl : low v = v
        · rw [decide_eq_true hl, if_pos hl]
          show Ev (fun k => tag_Check.j4 k (i : Int) v V (V.length : Int) (i : Int) false l s r V K) _
          have e : (if (if rise pr v = 0 then vcP (some v) ys else rise pr v) = 0 then restK K else (if rise pr v = 0 then vcP (some v) ys else rise pr v)) = if rise pr v = 0 then (if vcP (some v) ys = 0 then restK K else vcP (some v) ys) else rise pr v := by
            by_cases hr : rise pr v = 0
            · simp only [if_pos hr]
            · simp only [if_neg hr]
          rw [e]; exact h4
        · rw [decide_eq_false hl, if_neg hl]
          simpa using bad
theorem tj6 {i : Nat} {pr : Option Ke} {v : Ke} {ys : List Ke} (h : At K i pr (v :: ys)) {X : Int} (hX : Ev (fun k => tag_Check.l1 k K (K.length : Int) ((i + 1 : Nat) : Int) l s r V K) X) :
    Ev (fun k => tag_Check.j6 k (i : Int) K (K.length : Int) (i : Int) false l s r V K v.f0 v.f1) (if rise (pr.map (·.f0)) v.f0 = 0 then X else rise (pr.map (·.f0)) v.f0) := by
  have hn := z.nK
  have hi := (drop_cons h.1).1
  have hw : wrap64 ((i : Int) + 1) = ((i + 1 : Nat) : Int) := w64 (by omega)
  cases pr with
  | none =>
    have h0 : i = 0 := h.2
    subst h0
    show Ev _ X
    refine Ev.step (fun k => ?_) hX
    simp only [tag_Check.j6]
    rw [if_neg (by simp), if_neg (by omega), hw]
  | some p =>
    obtain ⟨j, rfl, hj⟩ := h.2
    have hp := rdK_c (drop_cons hj).2.1
    have hjl := (drop_cons hj).1
    refine Ev.step (f := fun k => if rise (some p.f0) v.f0 = 0 then tag_Check.l1 k K (K.length : Int) ((j + 1 + 1 : Nat) : Int) l s r V K else some (rise (some p.f0) v.f0)) (fun k => ?_) ?_
    · simp only [tag_Check.j6]
      rw [if_neg (by simp), if_pos (by omega), w64_pred j (by omega), if_pos (by omega), if_pos (by omega), hp, rising_f, hw]
      rfl
    · show Ev _ (if rise (some p.f0) v.f0 = 0 then X else rise (some p.f0) v.f0)
      split
      · exact hX
      · exact Ev.now _
theorem tl1 : ∀ (ys : List Ke) (pr : Option Ke) (i : Nat), At K i pr ys → Ev (fun k => tag_Check.l1 k K (K.length : Int) (i : Int) l s r V K) (kcP pr ys)
  | [], pr, i, h => by
    have hi : K.length ≤ i := List.drop_eq_nil_iff.1 h.1
    refine Ev.step (f := fun _ => some 0) (fun k => ?_) (Ev.now _)
    simp only [tag_Check.l1]
    rw [if_neg (by omega)]
  | v :: ys, pr, i, h => by
    have ih := tl1 ys (some v) (i + 1) h.next
    obtain ⟨hi, hv, _⟩ := drop_cons h.1
    have hz := z.vK v (List.mem_of_getElem? hv)
    have h6 := tj6 z h ih
    have bad : Ev (fun k => tag_Check.j6 k (i : Int) K (K.length : Int) (i : Int) true l s r V K v.f0 v.f1) 70 := Ev.step (f := fun _ => some 70) (fun k => by simp [tag_Check.j6]) (Ev.now _)
    refine Ev.step (f := fun k => (tag_signs.f k v.f0 2 2).bind fun t => if t = true then (tag_lower.f v.f0).bind fun u => if v.f0.toList = u.toList then (tag_valued.f k v.f1).bind fun q => tag_Check.j6 k (i : Int) K (K.length : Int) (i : Int) (!q) l s r V K v.f0 v.f1 else tag_Check.j6 k (i : Int) K (K.length : Int) (i : Int) true l s r V K v.f0 v.f1 else tag_Check.j6 k (i : Int) K (K.length : Int) (i : Int) true l s r V K v.f0 v.f1) (fun k => ?_) (Ev.bind (signs_f v.f0 2 2 (by omega)) ?_)
    · simp only [tag_Check.l1]
      rw [if_pos (by omega), if_pos (by omega), if_pos (by omega), rdK_c hv]
    · unfold kcP
      cases ha : sgns (L v.f0) 2 2 with
      | false => simpa using bad
      | true =>
        simp only [if_true]
        rw [lower_f v.f0 (by omega)]
        simp only [Option.bind_some]
        by_cases hl : low v.f0 = v.f0
        · rw [if_pos hl]
          simp only [hl, if_true]
          refine Ev.bind (valued_f v.f1 hz.2) ?_
          cases hq : valP v.f1 with
          | true => simpa using h6
          | false => simpa using bad
        · rw [if_neg hl]
          have : ¬ v.f0.toList = (low v.f0).toList := fun e => hl (L_inj (by rw [toList_L, toList_L] at e; exact e)).symm
          simp only [if_neg this]
          exact bad
theorem tk : Ev (fun k => if (K.length : Int) > 64 then some 5 else tag_Check.l1 k K (K.length : Int) 0 l s r V K) (restK K) := by
  unfold restK
  by_cases h : K.length > 64
  · rw [if_pos h]; simp only [if_pos (show (K.length : Int) > 64 by omega)]; exact Ev.now _
  · rw [if_neg h]; simp only [if_neg (show ¬ (K.length : Int) > 64 by omega)]; exact tl1 z K none 0 (At.start K)
theorem tj2 : Ev (fun k => tag_Check.j2 k false l s r V K) (contP V K) := by
  unfold contP
  refine Ev.step (f := fun k => if (V.length : Int) > 64 then some 5 else tag_Check.l0 k V (V.length : Int) 0 l s r V K) (fun k => by simp only [tag_Check.j2]; rw [if_neg (by simp)]) ?_
  by_cases h : V.length > 64
  · rw [if_pos h]; simp only [if_pos (show (V.length : Int) > 64 by omega)]; exact Ev.now _
  · rw [if_neg h]; simp only [if_neg (show ¬ (V.length : Int) > 64 by omega)]; exact tl0 z (tk z) V none 0 (At.start V)
theorem check_f : Ev (fun k => tag_Check.f k l s r V K) (checkP l s r V K) := by
  have b0 : Ev (fun k => tag_Check.j0 k true l s r V K) 70 := Ev.step (f := fun _ => some 70) (fun k => by simp [tag_Check.j0]) (Ev.now _)
  have b1 : Ev (fun k => tag_Check.j1 k true l s r V K) 70 := Ev.step (f := fun _ => some 70) (fun k => by simp [tag_Check.j1]) (Ev.now _)
  have b2 : Ev (fun k => tag_Check.j2 k true l s r V K) 70 := Ev.step (f := fun _ => some 70) (fun k => by simp [tag_Check.j2]) (Ev.now _)
  have c1 : Ev (fun k => tag_Check.j1 k false l s r V K) (if regOk r = true then contP V K else 70) := by
    refine Ev.step (fun k => by simp only [tag_Check.j1]; rw [if_neg (by simp)]) ?_
    unfold regOk
    rw [toList_L]
    by_cases h0 : L r = []
    · rw [decide_eq_true h0]; simp only [if_pos h0]; exact tj2 z
    · rw [decide_eq_false h0, Bool.false_or]; simp only [if_neg h0]
      refine Ev.bind (region_f r (by have := z.r; omega)) ?_
      cases hr : regn (L r) with
      | false => simpa using b2
      | true =>
        simp only [if_true, Bool.true_and]
        rw [upper_f r (by have := z.r; omega)]
        simp only [Option.bind_some, toList_L]
        by_cases hu : upp r = r
        · rw [hu]; simpa using tj2 z
        · have : (L r != L (upp r)) = true := by simp only [bne_iff_ne, ne_eq]; exact fun e => hu (L_inj e).symm
          rw [this]; simpa [hu] using b2
  have c0 : Ev (fun k => tag_Check.j0 k false l s r V K) (if scrOk s = true then (if regOk r = true then contP V K else 70) else 70) := by
    refine Ev.step (fun k => by simp only [tag_Check.j0]; rw [if_neg (by simp)]) ?_
    unfold scrOk
    rw [toList_L]
    by_cases h0 : L s = []
    · rw [decide_eq_true h0]; simp only [if_pos h0]; exact c1
    · rw [decide_eq_false h0, Bool.false_or]; simp only [if_neg h0]
      refine Ev.bind (letters_f s 4 4 (by have := z.s; omega)) ?_
      cases hr : lets (L s) 4 4 with
      | false => simpa using b1
      | true =>
        have hlen : 1 ≤ s.size := by unfold lets at hr; simp only [Bool.and_eq_true, decide_eq_true_eq] at hr; rw [L_len] at hr; omega
        simp only [if_true, Bool.true_and]
        rw [title_f s (by have := z.s; omega) hlen]
        simp only [Option.bind_some, toList_L]
        by_cases hu : titl s = s
        · rw [hu]; simpa using c1
        · have : (L s != L (titl s)) = true := by simp only [bne_iff_ne, ne_eq]; exact fun e => hu (L_inj e).symm
          rw [this]; simpa [hu] using b1
  unfold tag_Check.f checkP langOk
  rw [toList_L]
  by_cases h0 : L l = []
  · rw [decide_eq_true h0]; simp only [if_pos h0]; exact c0
  · rw [decide_eq_false h0, Bool.false_or]; simp only [if_neg h0]
    refine Ev.bind (letters_f l 2 3 (by have := z.l; omega)) ?_
    cases hr : lets (L l) 2 3 with
    | false => simpa using b0
    | true =>
      simp only [if_true, Bool.true_and]
      rw [lower_f l (by have := z.l; omega)]
      simp only [Option.bind_some, toList_L]
      by_cases hu : low l = l
      · rw [hu]
        simp only [if_true]
        by_cases h3 : L l = [117, 110, 100]
        · have : (L l == [117, 110, 100]) = true := by rw [h3]; rfl
          rw [this]; simpa [h3] using b0
        · have : (L l == [117, 110, 100]) = false := by simpa using h3
          rw [this]; simpa [h3] using c0
      · have : ¬ L l = L (low l) := fun e => hu (L_inj e).symm
        simp only [if_neg this]
        simpa [hu] using b0
end
end Go.Proofs.YtphjhbppjakocaaGreatDoor.Pl
namespace Go.Proofs.YtphjhbppjakocaaGreatDoor.Pl
open Go.RowKit Go.Proofs.YtphjhbppjakocaaGreatDoorW.PrintWords Go.Proofs.YtphjhbppjakocaaGreatDoor.PTag
set_option linter.unusedVariables false
theorem low_ne (v : ByteArray) : ((low v).toList != v.toList) = !decide (low v = v) := by
  rw [toList_L, toList_L]
  by_cases h : low v = v
  · rw [decide_eq_true h, h]; simp
  · rw [decide_eq_false h]
    simp only [Bool.not_false, bne_iff_ne, ne_eq]
    exact fun e => h (L_inj e)
theorem smallF (s : ByteArray) (h : s.size ≤ 1048576) : idiomref07_Small.f s = some (low s) := by unfold idiomref07_Small.f; rw [if_pos (by omega)]; rfl
theorem greatF (s : ByteArray) (h : s.size ≤ 1048576) : idiomref07_great.f s = some (upp s) := by unfold idiomref07_great.f; rw [if_pos (by omega)]; rfl
theorem rise_some (p v : ByteArray) : rise (some p) v = if p.toList = v.toList then 6 else if Op.bytesLess v.toList p.toList = true then 70 else 0 := rfl
section
variable {l s r : ByteArray} {V : List ByteArray} {K : List Ke} (z : Sz l s r V K)
include z
theorem rj2 {i : Nat} {pr : Option ByteArray} {v : ByteArray} {ys : List ByteArray} (h : At V i pr (v :: ys)) {X : Int} (hX : Ev (fun k => idiomref07_Check.l0 k ((i + 1 : Nat) : Int) l s r V K) X) :
    Ev (fun k => idiomref07_Check.j2 k (i : Int) v false l s r V K) (if rise pr v = 0 then X else rise pr v) := by
  have hn := z.nV
  have hi := (drop_cons h.1).1
  have hw : wrap64 ((i : Int) + 1) = ((i + 1 : Nat) : Int) := w64 (by omega)
  cases pr with
  | none =>
    have h0 : i = 0 := h.2
    subst h0
    show Ev _ X
    refine Ev.step (f := fun k => idiomref07_Check.j3 k ((0 : Nat) : Int) v false l s r V K) (fun k => ?_) (Ev.step (f := fun k => idiomref07_Check.j4 k ((0 : Nat) : Int) false l s r V K) (fun k => ?_) (Ev.step (fun k => ?_) hX))
    · simp only [idiomref07_Check.j2]; rw [if_neg (by simp), if_neg (by omega)]
    · simp only [idiomref07_Check.j3]; rw [if_neg (by simp), if_neg (by omega)]
    · simp only [idiomref07_Check.j4]; rw [if_neg (by simp), hw]
  | some p =>
    obtain ⟨j, rfl, hj⟩ := h.2
    have hp := rdOf_c (drop_cons hj).2.1
    have hjl := (drop_cons hj).1
    refine Ev.step (f := fun k => idiomref07_Check.j3 k ((j + 1 : Nat) : Int) v (p.toList == v.toList) l s r V K) (fun k => ?_) ?_
    · simp only [idiomref07_Check.j2]
      rw [if_neg (by simp), if_pos (by omega), w64_pred j (by omega), if_pos (by omega), if_pos (by omega), hp]
    · rw [rise_some]
      by_cases h1 : p.toList = v.toList
      · rw [if_pos h1]
        have e : (p.toList == v.toList) = true := beq_iff_eq.2 h1
        rw [e]
        exact Ev.step (f := fun _ => some 6) (fun k => by simp [idiomref07_Check.j3]) (Ev.now _)
      · rw [if_neg h1]
        have e : (p.toList == v.toList) = false := beq_eq_false_iff_ne.2 h1
        rw [e]
        refine Ev.step (f := fun k => idiomref07_Check.j4 k ((j + 1 : Nat) : Int) (Op.bytesLess v.toList p.toList) l s r V K) (fun k => ?_) ?_
        · simp only [idiomref07_Check.j3]
          rw [if_neg (by simp), if_pos (by omega), w64_pred j (by omega), if_pos (by omega), if_pos (by omega), hp]
        · cases hb : Op.bytesLess v.toList p.toList with
          | true => exact Ev.step (f := fun _ => some 70) (fun k => by simp [idiomref07_Check.j4]) (Ev.now _)
          | false =>
            show Ev _ X
            refine Ev.step (fun k => ?_) hX
            simp only [idiomref07_Check.j4]; rw [if_neg (by simp), hw]
theorem rl0 (hK : Ev (fun k => if (K.length : Int) > 64 then some 5 else idiomref07_Check.l1 k 0 l s r V K) (restK K)) : ∀ (ys : List ByteArray) (pr : Option ByteArray) (i : Nat), At V i pr ys →
    Ev (fun k => idiomref07_Check.l0 k (i : Int) l s r V K) (if vcP pr ys = 0 then restK K else vcP pr ys)
  | [], pr, i, h => by
    have hi : V.length ≤ i := List.drop_eq_nil_iff.1 h.1
    show Ev _ (restK K)
    refine Ev.step (fun k => ?_) hK
    simp only [idiomref07_Check.l0]
    rw [if_neg (by omega)]
  | v :: ys, pr, i, h => by
    have ih := rl0 hK ys (some v) (i + 1) h.next
    obtain ⟨hi, hv, _⟩ := drop_cons h.1
    have hz := z.vV v (List.mem_of_getElem? hv)
    have h4 := rj2 z h ih
    refine Ev.step (f := fun k => (idiomref07_variant.f k v).bind fun t => if t = true then (idiomref07_Small.f v).bind fun u => idiomref07_Check.j2 k (i : Int) v (u.toList != v.toList) l s r V K else idiomref07_Check.j2 k (i : Int) v true l s r V K) (fun k => ?_) (Ev.bind (rvariant_f v (by omega)) ?_)
    · simp only [idiomref07_Check.l0]
      rw [if_pos (by omega), if_pos (by omega), rdOf_c hv]
    · have bad : Ev (fun k => idiomref07_Check.j2 k (i : Int) v true l s r V K) 70 := Ev.step (f := fun _ => some 70) (fun k => by simp [idiomref07_Check.j2]) (Ev.now _)
      unfold vcP
      cases ha : vart (L v) with
      | false => simpa using bad
      | true =>
        simp only [if_true]
        rw [smallF v hz]
        simp only [Option.bind_some, low_ne]
        by_cases hl : low v = v
        · rw [decide_eq_true hl, if_pos hl]
          show Ev (fun k => idiomref07_Check.j2 k (i : Int) v false l s r V K) _
          have e : (if (if rise pr v = 0 then vcP (some v) ys else rise pr v) = 0 then restK K else (if rise pr v = 0 then vcP (some v) ys else rise pr v)) = if rise pr v = 0 then (if vcP (some v) ys = 0 then restK K else vcP (some v) ys) else rise pr v := by
            by_cases hr : rise pr v = 0
            · simp only [if_pos hr]
            · simp only [if_neg hr]
          rw [e]; exact h4
        · rw [decide_eq_false hl, if_neg hl]
          simpa using bad
theorem rj6 {i : Nat} {pr : Option Ke} {v : Ke} {ys : List Ke} (h : At K i pr (v :: ys)) {X : Int} (hX : Ev (fun k => idiomref07_Check.l1 k ((i + 1 : Nat) : Int) l s r V K) X) :
    Ev (fun k => idiomref07_Check.j6 k (i : Int) false l s r V K v.f0 v.f1) (if rise (pr.map (·.f0)) v.f0 = 0 then X else rise (pr.map (·.f0)) v.f0) := by
  have hn := z.nK
  have hi := (drop_cons h.1).1
  have hw : wrap64 ((i : Int) + 1) = ((i + 1 : Nat) : Int) := w64 (by omega)
  cases pr with
  | none =>
    have h0 : i = 0 := h.2
    subst h0
    show Ev _ X
    refine Ev.step (f := fun k => idiomref07_Check.j7 k ((0 : Nat) : Int) false l s r V K v.f0 v.f1) (fun k => ?_) (Ev.step (f := fun k => idiomref07_Check.j8 k ((0 : Nat) : Int) false l s r V K) (fun k => ?_) (Ev.step (fun k => ?_) hX))
    · simp only [idiomref07_Check.j6]; rw [if_neg (by simp), if_neg (by omega)]
    · simp only [idiomref07_Check.j7]; rw [if_neg (by simp), if_neg (by omega)]
    · simp only [idiomref07_Check.j8]; rw [if_neg (by simp), hw]
  | some p =>
    obtain ⟨j, rfl, hj⟩ := h.2
    have hp := rdK_c (drop_cons hj).2.1
    have hjl := (drop_cons hj).1
    show Ev _ (if rise (some p.f0) v.f0 = 0 then X else rise (some p.f0) v.f0)
    refine Ev.step (f := fun k => idiomref07_Check.j7 k ((j + 1 : Nat) : Int) (p.f0.toList == v.f0.toList) l s r V K v.f0 v.f1) (fun k => ?_) ?_
    · simp only [idiomref07_Check.j6]
      rw [if_neg (by simp), if_pos (by omega), w64_pred j (by omega), if_pos (by omega), if_pos (by omega), hp]
    · rw [rise_some]
      by_cases h1 : p.f0.toList = v.f0.toList
      · rw [if_pos h1]
        have e : (p.f0.toList == v.f0.toList) = true := beq_iff_eq.2 h1
        rw [e]
        exact Ev.step (f := fun _ => some 6) (fun k => by simp [idiomref07_Check.j7]) (Ev.now _)
      · rw [if_neg h1]
        have e : (p.f0.toList == v.f0.toList) = false := beq_eq_false_iff_ne.2 h1
        rw [e]
        refine Ev.step (f := fun k => idiomref07_Check.j8 k ((j + 1 : Nat) : Int) (Op.bytesLess v.f0.toList p.f0.toList) l s r V K) (fun k => ?_) ?_
        · simp only [idiomref07_Check.j7]
          rw [if_neg (by simp), if_pos (by omega), w64_pred j (by omega), if_pos (by omega), if_pos (by omega), hp]
        · cases hb : Op.bytesLess v.f0.toList p.f0.toList with
          | true => exact Ev.step (f := fun _ => some 70) (fun k => by simp [idiomref07_Check.j8]) (Ev.now _)
          | false =>
            show Ev _ X
            refine Ev.step (fun k => ?_) hX
            simp only [idiomref07_Check.j8]; rw [if_neg (by simp), hw]
theorem rl1 : ∀ (ys : List Ke) (pr : Option Ke) (i : Nat), At K i pr ys → Ev (fun k => idiomref07_Check.l1 k (i : Int) l s r V K) (kcP pr ys)
  | [], pr, i, h => by
    have hi : K.length ≤ i := List.drop_eq_nil_iff.1 h.1
    refine Ev.step (f := fun _ => some 0) (fun k => ?_) (Ev.now _)
    simp only [idiomref07_Check.l1]
    rw [if_neg (by omega)]
  | v :: ys, pr, i, h => by
    have ih := rl1 ys (some v) (i + 1) h.next
    obtain ⟨hi, hv, _⟩ := drop_cons h.1
    have hz := z.vK v (List.mem_of_getElem? hv)
    have h6 := rj6 z h ih
    have bad : Ev (fun k => idiomref07_Check.j6 k (i : Int) true l s r V K v.f0 v.f1) 70 := Ev.step (f := fun _ => some 70) (fun k => by simp [idiomref07_Check.j6]) (Ev.now _)
    refine Ev.step (f := fun k => (idiomref07_signs.f k v.f0 2 2).bind fun t => if t = true then (idiomref07_Small.f v.f0).bind fun u => if u.toList = v.f0.toList then (idiomref07_value.f k v.f1).bind fun q => idiomref07_Check.j6 k (i : Int) (!q) l s r V K v.f0 v.f1 else idiomref07_Check.j6 k (i : Int) true l s r V K v.f0 v.f1 else idiomref07_Check.j6 k (i : Int) true l s r V K v.f0 v.f1) (fun k => ?_) (Ev.bind (rsigns_f v.f0 2 2 (by omega)) ?_)
    · simp only [idiomref07_Check.l1]
      rw [if_pos (by omega), if_pos (by omega), rdK_c hv]
    · unfold kcP
      cases ha : sgns (L v.f0) 2 2 with
      | false => simpa using bad
      | true =>
        simp only [if_true]
        rw [smallF v.f0 hz.1]
        simp only [Option.bind_some]
        by_cases hl : low v.f0 = v.f0
        · rw [if_pos hl]
          simp only [hl, if_true]
          refine Ev.bind (value_f v.f1 hz.2) ?_
          cases hq : valP v.f1 with
          | true => simpa using h6
          | false => simpa using bad
        · rw [if_neg hl]
          have : ¬ (low v.f0).toList = v.f0.toList := fun e => hl (L_inj (by rw [toList_L, toList_L] at e; exact e))
          simp only [if_neg this]
          exact bad
theorem rk : Ev (fun k => if (K.length : Int) > 64 then some 5 else idiomref07_Check.l1 k 0 l s r V K) (restK K) := by
  unfold restK
  by_cases h : K.length > 64
  · rw [if_pos h]; simp only [if_pos (show (K.length : Int) > 64 by omega)]; exact Ev.now _
  · rw [if_neg h]; simp only [if_neg (show ¬ (K.length : Int) > 64 by omega)]; exact rl1 z K none 0 (At.start K)
theorem rj0 : Ev (fun k => idiomref07_Check.j0 k false l s r V K) (contP V K) := by
  unfold contP
  refine Ev.step (f := fun k => if (V.length : Int) > 64 then some 5 else idiomref07_Check.l0 k 0 l s r V K) (fun k => by simp only [idiomref07_Check.j0]; rw [if_neg (by simp)]) ?_
  by_cases h : V.length > 64
  · rw [if_pos h]; simp only [if_pos (show (V.length : Int) > 64 by omega)]; exact Ev.now _
  · rw [if_neg h]; simp only [if_neg (show ¬ (V.length : Int) > 64 by omega)]; exact rl0 z (rk z) V none 0 (At.start V)
theorem rcheck_f : Ev (fun k => idiomref07_Check.f k l s r V K) (checkP l s r V K) := by
  have b0 : Ev (fun k => idiomref07_Check.j0 k true l s r V K) 70 := Ev.step (f := fun _ => some 70) (fun k => by simp [idiomref07_Check.j0]) (Ev.now _)
  have cR : Ev (fun k => if r.toList = ([] : List UInt8) then idiomref07_Check.j0 k false l s r V K else (idiomref07_region.f k r).bind fun t => if t = true then (idiomref07_great.f r).bind fun u => idiomref07_Check.j0 k (u.toList != r.toList) l s r V K else idiomref07_Check.j0 k true l s r V K) (if regOk r = true then contP V K else 70) := by
    unfold regOk
    rw [toList_L]
    by_cases h0 : L r = []
    · rw [decide_eq_true h0]; simp only [if_pos h0]; exact rj0 z
    · rw [decide_eq_false h0, Bool.false_or]; simp only [if_neg h0]
      refine Ev.bind (rregion_f r (by have := z.r; omega)) ?_
      cases hr : regn (L r) with
      | false => simpa using b0
      | true =>
        simp only [if_true, Bool.true_and]
        rw [greatF r z.r]
        simp only [Option.bind_some, toList_L]
        by_cases hu : upp r = r
        · rw [hu]; simpa using rj0 z
        · have : (L (upp r) != L r) = true := by simp only [bne_iff_ne, ne_eq]; exact fun e => hu (L_inj e)
          rw [this]; simpa [hu] using b0
  have cS : Ev (fun k => if s.toList = ([] : List UInt8) then (if r.toList = ([] : List UInt8) then idiomref07_Check.j0 k false l s r V K else (idiomref07_region.f k r).bind fun t => if t = true then (idiomref07_great.f r).bind fun u => idiomref07_Check.j0 k (u.toList != r.toList) l s r V K else idiomref07_Check.j0 k true l s r V K)
      else (idiomref07_script.f k s).bind fun t => if t = true then (idiomref07_title.f s).bind fun u => if u.toList = s.toList then (if r.toList = ([] : List UInt8) then idiomref07_Check.j0 k false l s r V K else (idiomref07_region.f k r).bind fun t => if t = true then (idiomref07_great.f r).bind fun u => idiomref07_Check.j0 k (u.toList != r.toList) l s r V K else idiomref07_Check.j0 k true l s r V K) else idiomref07_Check.j0 k true l s r V K else idiomref07_Check.j0 k true l s r V K) (if scrOk s = true then (if regOk r = true then contP V K else 70) else 70) := by
    unfold scrOk
    by_cases h0 : L s = []
    · have h0' : s.toList = [] := by rw [toList_L]; exact h0
      rw [decide_eq_true h0]; simp only [if_pos h0']; exact cR
    · have h0' : ¬ s.toList = [] := by rw [toList_L]; exact h0
      rw [decide_eq_false h0, Bool.false_or]; simp only [if_neg h0']
      refine Ev.bind (script_f s (by have := z.s; omega)) ?_
      cases hr : lets (L s) 4 4 with
      | false => simpa using b0
      | true =>
        have hlen : ¬ s.size = 0 := by unfold lets at hr; simp only [Bool.and_eq_true, decide_eq_true_eq] at hr; rw [L_len] at hr; omega
        simp only [if_true, Bool.true_and]
        rw [rtitle_f s (by have := z.s; omega), if_neg hlen]
        simp only [Option.bind_some]
        by_cases hu : titl s = s
        · simp only [hu, if_true, decide_true]; exact cR
        · have : ¬ (titl s).toList = s.toList := by rw [toList_L, toList_L]; exact fun e => hu (L_inj e)
          simp only [if_neg this]
          simpa [hu] using b0
  unfold idiomref07_Check.f checkP langOk
  by_cases h0 : L l = []
  · have h0' : l.toList = [] := by rw [toList_L]; exact h0
    rw [decide_eq_true h0]; simp only [if_pos h0']; exact cS
  · have h0' : ¬ l.toList = [] := by rw [toList_L]; exact h0
    rw [decide_eq_false h0, Bool.false_or]; simp only [if_neg h0']
    refine Ev.bind (lang_f l (by have := z.l; omega)) ?_
    cases hr : lets (L l) 2 3 with
    | false => simpa using b0
    | true =>
      simp only [if_true, Bool.true_and]
      rw [smallF l z.l]
      simp only [Option.bind_some]
      by_cases hu : low l = l
      · simp only [hu, if_true, decide_true, Bool.true_and]
        by_cases h3 : L l = [117, 110, 100]
        · have h3' : l.toList = [117, 110, 100] := by rw [toList_L]; exact h3
          simp only [if_pos h3']; simpa [h3] using b0
        · have h3' : ¬ l.toList = [117, 110, 100] := by rw [toList_L]; exact h3
          simp only [if_neg h3']
          rw [decide_eq_true h3]
          exact cS
      · have : ¬ (low l).toList = l.toList := by rw [toList_L, toList_L]; exact fun e => hu (L_inj e)
        simp only [if_neg this]
        simpa [hu] using b0
end
end Go.Proofs.YtphjhbppjakocaaGreatDoor.Pl
