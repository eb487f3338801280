/- What the printed functions on one pattern come to: the program's checkPattern and the document's Pattern tell one code; the program's cut and put; conditions: as each states. -/
import Derived.Test.YtalojokihccboaaLiPat
import Derived.Test.YtalojokihccboaaPListsx2
import Derived.Test.YtalojokihccboaaPListsx4
namespace Go.Proofs.Ytalojokihccboaa.Pl
open Go.RowKit Go.Proofs.YtalojokihccboaaW.PrintWords Go.Proofs.Ytalojokihccboaa.PLists Pat
set_option linter.unusedVariables false
theorem w64 {x : Int} (h : -9223372036854775808 ≤ x ∧ x ≤ 9223372036854775807) : wrap64 x = x := by unfold wrap64; omega
/-- A text's bytes, and back. -/
abbrev L (s : ByteArray) : Bs := s.data.toList
abbrev S (l : Bs) : ByteArray := ⟨l.toArray⟩
theorem LS (l : Bs) : L (S l) = l := by simp [L]
theorem SL (s : ByteArray) : S (L s) = s := by cases s; simp [L]
theorem L_len (s : ByteArray) : (L s).length = s.size := data_length s
theorem S_size (l : Bs) : (S l).size = l.length := by rw [← L_len, LS]
theorem bt_L {s : ByteArray} {i : Nat} (h : i < s.size) : bt s (i : Int) = (((L s)[i]'(by rw [L_len]; exact h)).toNat : Int) := by
  rw [bt_nat s i h]; rfl
theorem drop_L {s : ByteArray} {i : Nat} (h : i < s.size) : (L s).drop i = (L s)[i]'(by rw [L_len]; exact h) :: (L s).drop (i + 1) := List.drop_eq_getElem_cons _

def pcode (p : ByteArray) : Int := if 65536 < p.size then 2 else if scan 48 (L p) = true then 0 else 130
theorem pcode_zero {p : ByteArray} (h : pcode p = 0) : p.size ≤ 65536 ∧ ∃ A B C, Dec (L p) A B C := by
  unfold pcode at h
  by_cases h1 : 65536 < p.size
  · rw [if_pos h1] at h; cases h
  · rw [if_neg h1] at h
    by_cases h2 : scan 48 (L p) = true
    · exact ⟨by omega, (scan_48 _).1 h2⟩
    · rw [if_neg h2] at h; cases h
theorem pcode_vals (p : ByteArray) : pcode p = 2 ∨ pcode p = 0 ∨ pcode p = 130 := by
  unfold pcode
  split
  · exact .inl rfl
  · split
    · exact .inr (.inl rfl)
    · exact .inr (.inr rfl)
theorem chk_f (p : ByteArray) : lists_checkPattern.f p = some (pcode p) := by
  unfold lists_checkPattern.f pcode
  by_cases h1 : 65536 < p.size
  · rw [if_pos (by omega), if_pos h1]
  · rw [if_neg (by omega), if_neg h1]
    unfold strings_Index.f strings_Count.f
    rw [if_pos (by omega), if_pos (by omega)]
    simp only [Option.bind_some]
    rw [if_pos (show (⟨#[123]⟩ : ByteArray).size = 1 from rfl)]
    rw [show (#[123] : Array UInt8).getD 0 0 = 123 from rfl, show ([123, 48, 125] : List UInt8) = o0 from rfl, show ([123, 49, 125] : List UInt8) = o1 from rfl]
    unfold Lib.countByte
    by_cases h2 : scan 48 (L p) = true
    · obtain ⟨A, B, C, hd⟩ := (scan_48 _).1 h2
      rw [if_pos h2, show Lib.index p.data.toList o0 = _ from hd.idx0, show Lib.index p.data.toList o1 = _ from hd.idx1, show List.count 123 p.data.toList = 2 from hd.count]
      rw [if_neg (by omega), if_neg (by omega)]; rfl
    · rw [if_neg h2]
      by_cases g0 : Lib.index p.data.toList o0 < 0
      · rw [if_pos g0]
      · rw [if_neg g0]
        by_cases g1 : Lib.index p.data.toList o1 < Lib.index p.data.toList o0
        · rw [if_pos g1]
        · rw [if_neg g1]
          simp only [Option.bind_some]
          by_cases g2 : ((List.count 123 p.data.toList : Nat) : Int) = 2
          · exfalso
            exact h2 ((scan_48 _).2 (dec_of (l := p.data.toList) (by omega) (by omega) (by omega)))
          · rw [if_neg g2]
theorem pat_l (p : ByteArray) (hs : p.size ≤ 65536) : ∀ (d : Nat) (n i : Nat), p.size - i = d → i ≤ p.size → 48 ≤ n → n ≤ 50 →
    Ev (fun k => idiomref13_Pattern.l0 k p (n : Int) (i : Int)) (if scan n ((L p).drop i) = true then 0 else 130) := by
  intro d
  induction d with
  | zero =>
    intro n i hd hi h1 h2
    have hi' : i = p.size := by omega
    subst hi'
    refine Ev.step (f := fun _ => some (if (n : Int) = 50 then (0 : Int) else 130)) (fun k => ?_) ?_
    · simp only [idiomref13_Pattern.l0]
      rw [if_neg (by omega)]
      split <;> rfl
    · rw [List.drop_of_length_le (by rw [L_len]; omega)]
      have : (if scan n [] = true then (0 : Int) else 130) = if (n : Int) = 50 then (0 : Int) else 130 := by
        by_cases h : n = 50
        · subst h; rfl
        · rw [if_neg (by simp [scan]; exact h), if_neg (by omega)]
      rw [this]
      exact Ev.now _
  | succ d ih =>
    intro n i hd hi h1 h2
    have hlt : i < p.size := by omega
    rw [drop_L hlt]
    have hb := bt_L hlt
    generalize hc : (L p)[i]'(by rw [L_len]; exact hlt) = c at hb
    by_cases h123 : c = 123
    · subst h123
      have hb' : bt p (i : Int) = 123 := hb
      by_cases h49 : 49 < n
      · rw [scan_late h49]
        refine Ev.step (f := fun _ => some 130) (fun k => ?_) (Ev.now _)
        simp only [idiomref13_Pattern.l0]
        rw [if_pos (by omega), if_pos (by omega), if_pos hb', if_pos (by omega)]
      · by_cases h3 : p.size ≤ i + 2
        · rw [scan_short (by rw [List.length_drop, L_len]; omega)]
          refine Ev.step (f := fun _ => some 130) (fun k => ?_) (Ev.now _)
          simp only [idiomref13_Pattern.l0]
          rw [if_pos (by omega), if_pos (by omega), if_pos hb', if_neg (by omega), w64 (x := (i : Int) + 2) (by omega), if_pos (by omega)]
        · have hl1 : i + 1 < p.size := by omega
          have hl2 : i + 2 < p.size := by omega
          have ih1 := ih (n + 1) (i + 1) (by omega) (by omega) (by omega) (by omega)
          have e1 := drop_L hl1
          have e2 := drop_L hl2
          have b1 := bt_L hl1
          have b2 := bt_L hl2
          rw [e2] at e1
          generalize (L p)[i + 1]'(by rw [L_len]; exact hl1) = a at b1 e1
          generalize (L p)[i + 2]'(by rw [L_len]; exact hl2) = b at b2 e1
          rw [e1] at ih1 ⊢
          by_cases ha : a.toNat = n ∧ b = 125
          · rw [scan_yes h49 ha.1 ha.2]
            refine Ev.step (fun k => ?_) ih1
            simp only [idiomref13_Pattern.l0]
            rw [if_pos (by omega), if_pos (by omega), if_pos hb', if_neg (by omega), w64 (x := (i : Int) + 2) (by omega), w64 (x := (i : Int) + 1) (by omega), if_neg (by omega), if_pos (by omega), if_pos (by omega)]
            rw [show ((i : Int) + 1) = ((i + 1 : Nat) : Int) by omega, show ((i : Int) + 2) = ((i + 2 : Nat) : Int) by omega, b1, b2, if_pos (by have := ha.1; omega), if_pos (by omega), if_pos (by omega), if_pos (by rw [ha.2]; rfl)]
            rw [show ((n : Int) + 1) % 256 = ((n + 1 : Nat) : Int) by omega]
          · rw [scan_no ha]
            refine Ev.step (f := fun _ => some 130) (fun k => ?_) (Ev.now _)
            simp only [idiomref13_Pattern.l0]
            rw [if_pos (by omega), if_pos (by omega), if_pos hb', if_neg (by omega), w64 (x := (i : Int) + 2) (by omega), w64 (x := (i : Int) + 1) (by omega), if_neg (by omega), if_pos (by omega), if_pos (by omega)]
            rw [show ((i : Int) + 1) = ((i + 1 : Nat) : Int) by omega, show ((i : Int) + 2) = ((i + 2 : Nat) : Int) by omega, b1, b2]
            by_cases hn : a.toNat = n
            · rw [if_pos (by omega), if_pos (by omega), if_pos (by omega), if_neg (fun e => ha ⟨hn, UInt8.toNat_inj.1 (by rw [show UInt8.toNat 125 = 125 from rfl]; omega)⟩)]
            · rw [if_neg (by omega)]
    · have hb' : ¬ bt p (i : Int) = 123 := by
        rw [hb]; intro e; exact h123 (UInt8.toNat_inj.1 (by rw [show UInt8.toNat 123 = 123 from rfl]; omega))
      have ih1 := ih n (i + 1) (by omega) (by omega) h1 h2
      rw [scan_other h123]
      refine Ev.step (fun k => ?_) ih1
      simp only [idiomref13_Pattern.l0]
      rw [if_pos (by omega), if_pos (by omega), if_neg hb', w64 (x := (i : Int) + 1) (by omega), show ((i : Int) + 1) = ((i + 1 : Nat) : Int) by omega]
theorem pat_f (p : ByteArray) : Ev (fun k => idiomref13_Pattern.f k p) (pcode p) := by
  unfold pcode
  by_cases h1 : 65536 < p.size
  · rw [if_pos h1]
    refine Ev.congr (f := fun _ => some 2) (fun k => ?_) (Ev.now _)
    unfold idiomref13_Pattern.f; rw [if_pos (by omega)]
  · rw [if_neg h1]
    refine Ev.congr (fun k => ?_) (pat_l p (by omega) _ 48 0 rfl (by omega) (by omega) (by omega))
    unfold idiomref13_Pattern.f; rw [if_neg (by omega)]; rfl

/-- What the two Checks tell of four patterns. -/
def ccode (a b c d : ByteArray) : Int := if pcode a = 0 then (if pcode b = 0 then (if pcode c = 0 then pcode d else pcode c) else pcode b) else pcode a
theorem ccode_zero {a b c d : ByteArray} (h : ccode a b c d = 0) : pcode a = 0 ∧ pcode b = 0 ∧ pcode c = 0 ∧ pcode d = 0 := by
  unfold ccode at h
  by_cases ha : pcode a = 0
  · rw [if_pos ha] at h
    by_cases hb : pcode b = 0
    · rw [if_pos hb] at h
      by_cases hc : pcode c = 0
      · rw [if_pos hc] at h; exact ⟨ha, hb, hc, h⟩
      · rw [if_neg hc] at h; exact absurd h hc
    · rw [if_neg hb] at h; exact absurd h hb
  · rw [if_neg ha] at h; exact absurd h ha
theorem Check_f (a b c d : ByteArray) : lists_Check.f a b c d = some (ccode a b c d) := by
  unfold lists_Check.f ccode
  rw [chk_f, chk_f, chk_f, chk_f]
  simp only [Option.bind_some]
  split
  · split
    · split <;> rfl
    · rfl
  · rfl
theorem RCheck_f (a b c d : ByteArray) : Ev (fun k => idiomref13_Check.f k a b c d) (ccode a b c d) := by
  have l4 : (([a, b, c, d] : List ByteArray).length : Int) = 4 := rfl
  have s4 : Ev (fun k => idiomref13_Check.l0 k [a, b, c, d] 4) 0 := by
    refine Ev.step (f := fun _ => some 0) (fun k => ?_) (Ev.now _)
    simp only [idiomref13_Check.l0]; rw [l4, if_neg (by omega)]
  have one : ∀ (i : Nat) (x : ByteArray) (r : Int), i < 4 → rdOf ByteArray.empty [a, b, c, d] (i : Int) = x → Ev (fun k => idiomref13_Check.l0 k [a, b, c, d] ((i + 1 : Nat) : Int)) r →
      Ev (fun k => idiomref13_Check.l0 k [a, b, c, d] (i : Int)) (if pcode x = 0 then r else pcode x) := by
    intro i x r hi hx hr
    refine Ev.step (f := fun k => (idiomref13_Pattern.f k x).bind fun t => if t = 0 then idiomref13_Check.l0 k [a, b, c, d] ((i + 1 : Nat) : Int) else some t) (fun k => ?_) ?_
    · simp only [idiomref13_Check.l0]
      rw [l4, if_pos (by omega), if_pos (by omega), hx, w64 (x := (i : Int) + 1) (by omega)]
      rfl
    · refine Ev.bind (pat_f x) ?_
      by_cases h : pcode x = 0
      · rw [if_pos h, h]; simpa using hr
      · rw [if_neg h]; simp only [if_neg h]; exact Ev.now _
  have r3 := one 3 d _ (by omega) rfl s4
  have r2 := one 2 c _ (by omega) rfl r3
  have r1 := one 1 b _ (by omega) rfl r2
  have r0 := one 0 a _ (by omega) rfl r1
  have e : ccode a b c d = if pcode a = 0 then (if pcode b = 0 then (if pcode c = 0 then (if pcode d = 0 then 0 else pcode d) else pcode c) else pcode b) else pcode a := by
    unfold ccode
    by_cases hd : pcode d = 0
    · rw [if_pos hd, hd]
    · rw [if_neg hd]
  rw [e]
  exact r0

theorem cut_f {p : ByteArray} {A B C : Bs} (h : Dec (L p) A B C) (hs : p.size ≤ 65536) : lists_cut.f p = some (S A, S B, S C) := by
  have hl := h.len
  rw [L_len] at hl
  unfold lists_cut.f strings_Cut.f
  have e0 : (⟨#[123, 48, 125]⟩ : ByteArray).data.toList = o0 := rfl
  have e1 : (⟨#[123, 49, 125]⟩ : ByteArray).data.toList = o1 := rfl
  rw [if_pos (by omega), e0, e1]
  simp only [Option.bind_some]
  rw [show Lib.cut p.data.toList o0 = _ from h.cut0]
  simp only
  have hz : (S (B ++ (o1 ++ C))).size < 4294967281 := by rw [S_size]; simp [o1]; omega
  rw [if_pos hz]
  simp only [Option.bind_some]
  rw [h.cut1]

/-- Pieces behind one another. -/
def flat (l : List ByteArray) : Bs := (l.map L).flatten
theorem flat_nil : flat [] = [] := rfl
theorem flat_cons (x : ByteArray) (l : List ByteArray) : flat (x :: l) = L x ++ flat l := rfl
theorem flat_app (a b : List ByteArray) : flat (a ++ b) = flat a ++ flat b := by simp [flat]
theorem join_nil_sep : ∀ xs : List Bs, Lib.join xs [] = xs.flatten
  | [] => rfl
  | [x] => by simp [Lib.join, List.intercalate]
  | x :: y :: r => by
    have ih := join_nil_sep (y :: r)
    unfold Lib.join List.intercalate at ih ⊢
    rw [List.intersperse_cons_cons]
    simp only [List.flatten_cons, List.nil_append] at ih ⊢
    rw [ih]
theorem take_flat {l : List ByteArray} {i : Nat} (h : i < l.length) : flat (l.take (i + 1)) = flat (l.take i) ++ L l[i] := by
  rw [List.take_succ_eq_append_getElem h, flat_app]; simp [flat]
theorem flat_le (l : List ByteArray) (i : Nat) : (flat (l.take i)).length ≤ (flat l).length := by
  have : flat l = flat (l.take i) ++ flat (l.drop i) := by rw [← flat_app, List.take_append_drop]
  rw [this, List.length_append]; omega
theorem put_l (l : List ByteArray) (hl : l.length ≤ 1000000) : ∀ (d i : Nat), l.length - i = d → i ≤ l.length → (flat (l.take i)).length ≤ 1048576 →
    Ev (fun k => lists_put.l0 k l ((flat (l.take i)).length : Int) l (l.length : Int) (i : Int)) (if (flat l).length ≤ 1048576 then (S (flat l), true) else (S [], false)) := by
  intro d
  induction d with
  | zero =>
    intro i hd hi hn
    have hi' : i = l.length := by omega
    subst hi'
    rw [List.take_length] at hn ⊢
    rw [if_pos hn]
    refine Ev.step (f := fun _ => some (S (flat l), true)) (fun k => ?_) (Ev.now _)
    simp only [lists_put.l0]
    rw [if_neg (by omega)]
    unfold strings_Join.f
    rw [if_pos (by omega), show (⟨#[]⟩ : ByteArray).data.toList = [] from rfl, join_nil_sep]
    rw [show (List.map (fun x => x.data.toList) l).flatten = flat l from rfl, if_pos (by omega)]
    rfl
  | succ d ih =>
    intro i hd hi hn
    have hlt : i < l.length := by omega
    have hr : rdOf ByteArray.empty l (i : Int) = l[i] := by
      unfold rdOf; rw [Int.toNat_natCast, List.getD_eq_getElem?_getD, List.getElem?_eq_getElem hlt]; rfl
    have ht := take_flat hlt
    have hle := flat_le l (i + 1)
    rw [ht, List.length_append, L_len] at hle
    by_cases hc : (l[i].size : Int) > 1048576 - ((flat (l.take i)).length : Int)
    · rw [if_neg (by omega)]
      refine Ev.step (f := fun _ => some (S [], false)) (fun k => ?_) (Ev.now _)
      simp only [lists_put.l0]
      rw [if_pos (by omega), if_pos (by omega), if_pos (by omega), hr, w64 (x := 1048576 - ((flat (l.take i)).length : Int)) (by omega), if_pos hc]
    · have ih1 := ih (i + 1) (by omega) (by omega) (by rw [ht, List.length_append, L_len]; omega)
      refine Ev.step (fun k => ?_) ih1
      simp only [lists_put.l0]
      rw [if_pos (by omega), if_pos (by omega), if_pos (by omega), hr, w64 (x := 1048576 - ((flat (l.take i)).length : Int)) (by omega), if_neg hc, w64 (x := (i : Int) + 1) (by omega), w64 (x := ((flat (l.take i)).length : Int) + (l[i].size : Int)) (by omega), ht, List.length_append, L_len]
      rw [show ((i : Int) + 1) = ((i + 1 : Nat) : Int) by omega, show ((flat (l.take i)).length : Int) + (l[i].size : Int) = (((flat (l.take i)).length + l[i].size : Nat) : Int) by omega]
theorem put_f (l : List ByteArray) (hl : l.length ≤ 1000000) : Ev (fun k => lists_put.f k l) (if (flat l).length ≤ 1048576 then (S (flat l), true) else (S [], false)) :=
  put_l l hl _ 0 rfl (by omega) (by simp [flat])
end Go.Proofs.Ytalojokihccboaa.Pl
