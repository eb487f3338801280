/- Texts as rows of bytes: which ones are made of letters, digits, signs; what the program's and the document's functions on one text come to; conditions: texts' lengths as each states. -/
import Derived.Test.YtphjhbppjakocaaGreatDoorPU9
import Derived.Test.YtphjhbppjakocaaGreatDoorPU10
import Derived.Test.YtphjhbppjakocaaGreatDoorPU11
import Derived.Test.YtphjhbppjakocaaGreatDoorPU3
import Derived.Test.YtphjhbppjakocaaGreatDoorPU4
namespace Go.Proofs.YtphjhbppjakocaaGreatDoor.Pl
open Go.RowKit Go.Proofs.YtphjhbppjakocaaGreatDoorW.PrintWords Go.Proofs.YtphjhbppjakocaaGreatDoor.PTag
set_option linter.unusedVariables false
abbrev Bs := List UInt8
abbrev L (s : ByteArray) : Bs := s.data.toList
abbrev S (l : Bs) : ByteArray := ⟨l.toArray⟩
theorem w64 {x : Int} (h : -9223372036854775808 ≤ x ∧ x ≤ 9223372036854775807) : wrap64 x = x := by unfold wrap64; omega
theorem LS (l : Bs) : L (S l) = l := by simp [L]
theorem SL (s : ByteArray) : S (L s) = s := by cases s; simp [L]
theorem L_len (s : ByteArray) : (L s).length = s.size := data_length s
theorem S_size (l : Bs) : (S l).size = l.length := by rw [← L_len, LS]
theorem L_inj {a b : ByteArray} (h : L a = L b) : a = b := by rw [← SL a, ← SL b, h]
theorem toList_L (s : ByteArray) : s.toList = L s := Lib.toList_data s
theorem bt_L {s : ByteArray} {i : Nat} (h : i < s.size) : bt s (i : Int) = (((L s)[i]'(by rw [L_len]; exact h)).toNat : Int) := by
  unfold bt
  rw [dif_pos (by simpa using h)]
  simp [L, ByteArray.getElem_eq_getElem_data]
theorem drop_L {s : ByteArray} {i : Nat} (h : i < s.size) : (L s).drop i = (L s)[i]'(by rw [L_len]; exact h) :: (L s).drop (i + 1) := List.drop_eq_getElem_cons _
def isL (c : UInt8) : Bool := (decide (65 ≤ c.toNat) && decide (c.toNat ≤ 90)) || (decide (97 ≤ c.toNat) && decide (c.toNat ≤ 122))
def isD (c : UInt8) : Bool := decide (48 ≤ c.toNat) && decide (c.toNat ≤ 57)
def isS (c : UInt8) : Bool := isL c || isD c
theorem all_u8 {p : UInt8 → Prop} [DecidablePred p] (h : ∀ n : Fin 256, p (UInt8.ofNat n.val)) (c : UInt8) : p c := by
  have := h ⟨c.toNat, c.toNat_lt⟩
  simpa using this
set_option maxRecDepth 100000 in
theorem or32 (c : UInt8) : (isL c = true ↔ ¬ (Go.bits .or .u8 (c.toNat : Int) 32 < 97) ∧ ¬ (Go.bits .or .u8 (c.toNat : Int) 32 > 122)) :=
  all_u8 (p := fun c => (isL c = true ↔ ¬ (Go.bits .or .u8 (c.toNat : Int) 32 < 97) ∧ ¬ (Go.bits .or .u8 (c.toNat : Int) 32 > 122))) (by decide +kernel) c
def lets (l : Bs) (lo hi : Nat) : Bool := l.all isL && (decide (lo ≤ l.length) && decide (l.length ≤ hi))
def sgns (l : Bs) (lo hi : Nat) : Bool := l.all isS && (decide (lo ≤ l.length) && decide (l.length ≤ hi))
def nums (l : Bs) : Bool := l.all isD && decide (l.length = 3)
def regn (l : Bs) : Bool := lets l 2 2 || nums l
def vart (l : Bs) : Bool := sgns l 5 8 || (sgns l 4 4 && isD (l.headD 0))
theorem end_int (n lo hi : Nat) : (if (n : Int) ≥ (lo : Int) then (some (decide ((n : Int) ≤ (hi : Int)))) else some false) = some (decide (lo ≤ n) && decide (n ≤ hi)) := by
  by_cases h : lo ≤ n
  · rw [if_pos (by omega)]; simp [h]
  · rw [if_neg (by omega)]; simp [h]
theorem ev_all (l : Bs) (p : UInt8 → Bool) (e : Bool) (g : Nat → Nat → Option Bool) (hend : Ev (fun k => g k l.length) e) (ht : ∀ i c, (h : i < l.length) → l[i] = c → p c = true → ∀ r, Ev (fun k => g k (i + 1)) r → Ev (fun k => g k i) r)
    (hf : ∀ i c, (h : i < l.length) → l[i] = c → p c = false → Ev (fun k => g k i) false) : Ev (fun k => g k 0) (l.all p && e) := by
  have key : ∀ d i, l.length - i = d → i ≤ l.length → Ev (fun k => g k i) ((l.drop i).all p && e) := by
    intro d
    induction d with
    | zero =>
      intro i h1 h2
      have : i = l.length := by omega
      subst this
      rw [List.drop_length]; simpa using hend
    | succ d ih =>
      intro i h1 h2
      have hlt : i < l.length := by omega
      rw [List.drop_eq_getElem_cons hlt, List.all_cons]
      cases hp : p l[i] with
      | true => rw [Bool.true_and]; exact ht i _ hlt rfl hp _ (ih (i + 1) (by omega) (by omega))
      | false => rw [Bool.false_and, Bool.false_and]; exact hf i _ hlt rfl hp
  simpa using key l.length 0 (by omega) (by omega)
theorem bt_c {s : ByteArray} {i : Nat} {c : UInt8} (h : i < (L s).length) (hc : (L s)[i] = c) : bt s (i : Int) = (c.toNat : Int) ∧ i < s.size := by
  have hlt : i < s.size := by rw [← L_len]; exact h
  exact ⟨by rw [bt_L hlt, hc], hlt⟩
theorem next64 {s : ByteArray} (hs : s.size < 9223372036854775807) {i : Nat} (h : i < s.size) : wrap64 ((i : Int) + 1) = ((i + 1 : Nat) : Int) := w64 (by omega)
theorem letters_f (s : ByteArray) (lo hi : Nat) (hs : s.size < 9223372036854775807) : Ev (fun k => tag_letters.f k s (lo : Int) (hi : Int)) (lets (L s) lo hi) := by
  unfold tag_letters.f lets
  refine ev_all (L s) isL _ (fun k i => tag_letters.l0 k s (lo : Int) (hi : Int) (s.size : Int) (i : Int)) ?_ ?_ ?_
  · refine Ev.step (f := fun _ => some (decide (lo ≤ s.size) && decide (s.size ≤ hi))) (fun k => ?_) (by rw [L_len]; exact Ev.now _)
    simp only [tag_letters.l0]
    rw [L_len, if_neg (by omega)]
    exact end_int s.size lo hi
  · intro i c h hc hp r hr
    obtain ⟨hbt, hlt⟩ := bt_c h hc
    obtain ⟨h1, h2⟩ := (or32 c).1 hp
    refine Ev.step (f := fun k => tag_letters.j1 k s lo hi s.size i false) (fun k => ?_) (Ev.step (f := fun k => tag_letters.l0 k s (lo : Int) (hi : Int) (s.size : Int) ((i + 1 : Nat) : Int)) (fun k => ?_) hr)
    · simp only [tag_letters.l0]
      rw [if_pos (by omega), if_pos (by omega), if_pos (by omega), hbt, if_neg h1, decide_eq_false h2]
    · simp only [tag_letters.j1]
      rw [if_neg (by simp), next64 hs hlt]
  · intro i c h hc hp
    obtain ⟨hbt, hlt⟩ := bt_c h hc
    have hn := fun h => (by simpa [hp] using (or32 c).2 h : False)
    refine Ev.step (f := fun k => tag_letters.j1 k s lo hi s.size i true) (fun k => ?_) (Ev.step (f := fun k => some false) (fun k => by simp [tag_letters.j1]) (Ev.now _))
    simp only [tag_letters.l0]
    rw [if_pos (by omega), if_pos (by omega), if_pos (by omega), hbt]
    by_cases h1 : Go.bits .or .u8 (c.toNat : Int) 32 < 97
    · rw [if_pos h1]
    · rw [if_neg h1, decide_eq_true (Classical.byContradiction fun h2 => hn ⟨h1, h2⟩)]
theorem numerals_f (s : ByteArray) (hs : s.size < 9223372036854775807) : Ev (fun k => tag_numerals.f k s) (nums (L s)) := by
  unfold tag_numerals.f nums
  refine ev_all (L s) isD _ (fun k i => tag_numerals.l0 k s (s.size : Int) (i : Int)) ?_ ?_ ?_
  · refine Ev.step (f := fun _ => some (decide (s.size = 3))) (fun k => ?_) (by rw [L_len]; exact Ev.now _)
    simp only [tag_numerals.l0]
    rw [L_len, if_neg (by omega), Option.some.injEq, Bool.eq_iff_iff]
    simp; omega
  · intro i c h hc hp r hr
    obtain ⟨hbt, hlt⟩ := bt_c h hc
    simp only [isD, Bool.and_eq_true, decide_eq_true_eq] at hp
    refine Ev.step (f := fun k => tag_numerals.j1 k s s.size i false) (fun k => ?_) (Ev.step (f := fun k => tag_numerals.l0 k s (s.size : Int) ((i + 1 : Nat) : Int)) (fun k => ?_) hr)
    · simp only [tag_numerals.l0]
      rw [if_pos (by omega), if_pos (by omega), if_pos (by omega), hbt, if_neg (by omega), decide_eq_false (by omega)]
    · simp only [tag_numerals.j1]
      rw [if_neg (by simp), next64 hs hlt]
  · intro i c h hc hp
    obtain ⟨hbt, hlt⟩ := bt_c h hc
    have hn : ¬ (48 ≤ c.toNat ∧ c.toNat ≤ 57) := by simpa [isD] using hp
    refine Ev.step (f := fun k => tag_numerals.j1 k s s.size i true) (fun k => ?_) (Ev.step (f := fun k => some false) (fun k => by simp [tag_numerals.j1]) (Ev.now _))
    simp only [tag_numerals.l0]
    rw [if_pos (by omega), if_pos (by omega), if_pos (by omega), hbt]
    by_cases h1 : (c.toNat : Int) < 48
    · rw [if_pos h1]
    · rw [if_neg h1, decide_eq_true (by omega)]
theorem region_f (s : ByteArray) (hs : s.size < 9223372036854775807) : Ev (fun k => tag_region.f k s) (regn (L s)) := by
  unfold tag_region.f regn
  refine Ev.bind (letters_f s 2 2 hs) ?_
  cases lets (L s) 2 2 with
  | true => simpa using Ev.now _
  | false => simpa using Ev.bind (numerals_f s hs) (Ev.now _)
theorem signs_f (s : ByteArray) (lo hi : Nat) (hs : s.size < 9223372036854775807) : Ev (fun k => tag_signs.f k s (lo : Int) (hi : Int)) (sgns (L s) lo hi) := by
  unfold tag_signs.f sgns
  refine ev_all (L s) isS _ (fun k i => tag_signs.l0 k s (lo : Int) (hi : Int) (s.size : Int) (i : Int)) ?_ ?_ ?_
  · refine Ev.step (f := fun _ => some (decide (lo ≤ s.size) && decide (s.size ≤ hi))) (fun k => ?_) (by rw [L_len]; exact Ev.now _)
    simp only [tag_signs.l0]
    rw [L_len, if_neg (by omega)]
    exact end_int s.size lo hi
  · intro i c h hc hp r hr
    obtain ⟨hbt, hlt⟩ := bt_c h hc
    refine Ev.step (f := fun k => tag_signs.j1 k s lo hi s.size i false) (fun k => ?_) (Ev.step (f := fun k => tag_signs.l0 k s (lo : Int) (hi : Int) (s.size : Int) ((i + 1 : Nat) : Int)) (fun k => ?_) hr)
    · simp only [tag_signs.l0]
      rw [if_pos (by omega), if_pos (by omega), if_pos (by omega), hbt]
      have ho := or32 c
      cases hL : isL c with
      | true =>
        obtain ⟨h1, h2⟩ := ho.1 hL
        rw [if_neg h1, if_neg h2]
      | false =>
        have hd : 48 ≤ c.toNat ∧ c.toNat ≤ 57 := by simpa [isS, hL, isD] using hp
        by_cases h1 : Go.bits .or .u8 (c.toNat : Int) 32 < 97
        · rw [if_pos h1, if_neg (by omega), decide_eq_false (by omega)]
        · rw [if_neg h1]
          by_cases h2 : Go.bits .or .u8 (c.toNat : Int) 32 > 122
          · rw [if_pos h2, if_neg (by omega), decide_eq_false (by omega)]
          · rw [if_neg h2]
    · simp only [tag_signs.j1]
      rw [if_neg (by simp), next64 hs hlt]
  · intro i c h hc hp
    obtain ⟨hbt, hlt⟩ := bt_c h hc
    have hL : isL c = false := by cases h : isL c <;> simp_all [isS]
    have hd : ¬ (48 ≤ c.toNat ∧ c.toNat ≤ 57) := by simpa [isS, hL, isD] using hp
    have hn := fun h => (by simpa [hL] using (or32 c).2 h : False)
    refine Ev.step (f := fun k => tag_signs.j1 k s lo hi s.size i true) (fun k => ?_) (Ev.step (f := fun k => some false) (fun k => by simp [tag_signs.j1]) (Ev.now _))
    simp only [tag_signs.l0]
    rw [if_pos (by omega), if_pos (by omega), if_pos (by omega), hbt]
    have inner : (if (c.toNat : Int) < 48 then tag_signs.j1 k s lo hi s.size i true else tag_signs.j1 k s lo hi s.size i (decide ((c.toNat : Int) > 57))) = tag_signs.j1 k s lo hi s.size i true := by
      by_cases h3 : (c.toNat : Int) < 48
      · rw [if_pos h3]
      · rw [if_neg h3, decide_eq_true (by omega)]
    by_cases h1 : Go.bits .or .u8 (c.toNat : Int) 32 < 97
    · rw [if_pos h1, inner]
    · rw [if_neg h1, if_pos (Classical.byContradiction fun h2 => hn ⟨h1, h2⟩), inner]
theorem headD_zero (l : Bs) (h : 0 < l.length) : l.headD 0 = l[0] := by
  cases l with
  | nil => simp at h
  | cons a r => rfl
theorem variant_f (s : ByteArray) (hs : s.size < 9223372036854775807) : Ev (fun k => tag_variant.f k s) (vart (L s)) := by
  unfold tag_variant.f vart
  refine Ev.bind (signs_f s 5 8 hs) ?_
  cases h5 : sgns (L s) 5 8 with
  | true => simpa using Ev.now _
  | false =>
    simp only [Bool.false_eq_true, if_false, Bool.false_or]
    refine Ev.bind (signs_f s 4 4 hs) ?_
    cases h4 : sgns (L s) 4 4 with
    | false => simpa using Ev.now _
    | true =>
      have hlen : s.size = 4 := by
        have : (L s).length = 4 := by
          unfold sgns at h4
          simp only [Bool.and_eq_true, decide_eq_true_eq] at h4
          omega
        rw [← L_len]; exact this
      have hb := bt_L (s := s) (i := 0) (by omega)
      have hhd : (L s).headD 0 = (L s)[0]'(by rw [L_len]; omega) := headD_zero _ _
      simp only [if_true, Bool.true_and]
      rw [if_pos (by omega), show bt s 0 = _ from hb, hhd]
      unfold isD
      by_cases h1 : ((L s)[0]'(by rw [L_len]; omega)).toNat ≥ 48
      · rw [if_pos (by omega)]
        refine Ev.congr (f := fun _ => some (decide (48 ≤ ((L s)[0]'(by rw [L_len]; omega)).toNat) && decide (((L s)[0]'(by rw [L_len]; omega)).toNat ≤ 57))) (fun k => ?_) (Ev.now _)
        rw [decide_eq_true h1, Bool.true_and, Option.some.injEq, Bool.eq_iff_iff]
        simp; omega
      · rw [if_neg (by omega)]
        refine Ev.congr (f := fun _ => some false) (fun k => rfl) ?_
        rw [decide_eq_false h1, Bool.false_and]
        exact Ev.now _
end Go.Proofs.YtphjhbppjakocaaGreatDoor.Pl
