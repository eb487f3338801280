/- What the two printed Fills come to at a pattern that may be and two items: the five pieces behind one another, or that they are too long; conditions: such a pattern. -/
import Derived.Test.YtalojokihccboaaLiPl
import Derived.Test.YtalojokihccboaaPListsx3
import Derived.Test.YtalojokihccboaaPListsx7
namespace Go.Proofs.Ytalojokihccboaa.Pl
open Go.RowKit Go.Proofs.YtalojokihccboaaW.PrintWords Go.Proofs.Ytalojokihccboaa.PLists Pat
set_option linter.unusedVariables false
/-- A text, or that it is too long. -/
def res (l : Bs) : ByteArray × Int := if l.length ≤ 1048576 then (S l, 0) else (S [], 2)
theorem res_yes {l : Bs} (h : l.length ≤ 1048576) : res l = (S l, 0) := if_pos h
theorem res_no {l : Bs} (h : ¬ l.length ≤ 1048576) : res l = (S [], 2) := if_neg h
theorem drop_lt {l : Bs} {i : Nat} {c : UInt8} {R : Bs} (h : l.drop i = c :: R) : ∃ h : i < l.length, l[i] = c ∧ l.drop (i + 1) = R := by
  have hlt : i < l.length := by
    rcases Nat.lt_or_ge i l.length with h' | h'
    · exact h'
    · rw [List.drop_of_length_le h'] at h; cases h
  rw [List.drop_eq_getElem_cons hlt] at h
  injection h with h1 h2
  exact ⟨hlt, h1, h2⟩
theorem bt_drop {p : ByteArray} {i : Nat} {c : UInt8} {R : Bs} (h : (L p).drop i = c :: R) : i < p.size ∧ bt p (i : Int) = (c.toNat : Int) ∧ (L p).drop (i + 1) = R ∧ (∀ hh : i < p.size, p[i] = c) := by
  obtain ⟨h1, h2, h3⟩ := drop_lt h
  have hi : i < p.size := by rw [L_len] at h1; exact h1
  exact ⟨hi, by rw [bt_L hi, h2], h3, fun hh => h2⟩
theorem ne123 {c : UInt8} (h : c ≠ 123) : ¬ (c.toNat : Int) = 123 := fun e => h (UInt8.toNat_inj.1 (by rw [show UInt8.toNat 123 = 123 from rfl]; omega))

section
variable {p : ByteArray} {xs : List ByteArray}
theorem fill_seg (hp : p.size ≤ 65536) (T R : Bs) : ∀ (D : Bs) (i : Nat) (out : Bs), (L p).drop i = D ++ R → NB D → out.length ≤ 1048576 → (out ++ D).length ≤ T.length →
    ((out ++ D).length ≤ 1048576 → Ev (fun k => runes_Fill.l0 k p xs (out ++ D) (i + D.length)) (res T)) → Ev (fun k => runes_Fill.l0 k p xs out i) (res T) := by
  intro D
  induction D with
  | nil => intro i out _ _ ho _ hc; simpa using hc (by simpa using ho)
  | cons c D ih =>
    intro i out hd hn ho hT hc
    obtain ⟨hi, hb, hd', hg⟩ := bt_drop (R := D ++ R) hd
    have hb' : ¬ bt p (i : Int) = 123 := by rw [hb]; exact ne123 hn.head
    simp only [List.length_append, List.length_cons] at hT hc
    by_cases hm : out.length = 1048576
    · rw [res_no (l := T) (by omega)]
      refine Ev.step (f := fun _ => some (S [], 2)) (fun k => ?_) (Ev.now _)
      simp only [runes_Fill.l0]
      rw [if_pos hi, if_neg hb', if_pos (by omega)]
    · have e : out ++ c :: D = (out ++ [c]) ++ D := by simp
      refine Ev.step (f := fun k => runes_Fill.l0 k p xs (out ++ [c]) (i + 1)) (fun k => ?_) (ih (i + 1) (out ++ [c]) hd' hn.tail (by simp; omega) (by simp; omega) (fun h => ?_))
      · simp only [runes_Fill.l0]
        rw [if_pos hi, if_neg hb', if_neg (by omega), piece_one p i hi, hg hi]
      · rw [← e, show i + 1 + D.length = i + (D.length + 1) by omega]
        exact hc (by rw [← e] at h; simpa using h)
theorem fill_item (hp : p.size ≤ 65536) (T R : Bs) {i j : Nat} {c : UInt8} {x : ByteArray} {out : Bs} (hd : (L p).drop i = 123 :: c :: 125 :: R) (hj : c.toNat = 48 + j) (hj9 : j ≤ 9) (hx : xs[j]? = some x) (ho : out.length ≤ 1048576) (hT : (out ++ L x).length ≤ T.length)
    (hc : (out ++ L x).length ≤ 1048576 → Ev (fun k => runes_Fill.l0 k p xs (out ++ L x) (i + 3)) (res T)) : Ev (fun k => runes_Fill.l0 k p xs out i) (res T) := by
  obtain ⟨hi, hb, hd', _⟩ := bt_drop hd
  obtain ⟨hi1, hb1, hd1, _⟩ := bt_drop hd'
  obtain ⟨hi2, hb2, hd2, _⟩ := bt_drop hd1
  replace hb : bt p (i : Int) = 123 := hb
  replace hb2 : bt p ((i + 2 : Nat) : Int) = 125 := hb2
  have hjl := (List.getElem?_eq_some_iff.1 hx).1
  have hr : rdOf ByteArray.empty xs (bt p ((i + 1 : Nat) : Int) - 48) = x := by
    unfold rdOf
    rw [hb1, show ((c.toNat : Int) - 48).toNat = j by omega, List.getD_eq_getElem?_getD, hx]; rfl
  have h1 : ∀ k, runes_Fill.l0 (k + 1) p xs out i = if (1048576 : Int) - out.length < x.size then some (S [], 2) else runes_Fill.l0 k p xs (out ++ L x) (i + 3) := by
    intro k
    simp only [runes_Fill.l0]
    rw [if_pos hi, if_pos hb, if_neg (by omega), if_pos hb2, if_neg (by omega), if_neg (by omega), if_neg (by omega), hr]
  rw [List.length_append, L_len] at hT hc
  by_cases hm : (1048576 : Int) - out.length < x.size
  · rw [res_no (l := T) (by omega)]
    exact Ev.step (f := fun _ => some (S [], 2)) (fun k => by rw [h1, if_pos hm]) (Ev.now _)
  · exact Ev.step (fun k => by rw [h1, if_neg hm]) (hc (by omega))
theorem fill_end {i : Nat} {out : Bs} (hi : p.size ≤ i) (ho : out.length ≤ 1048576) : Ev (fun k => runes_Fill.l0 k p xs out i) (res out) := by
  rw [res_yes ho]
  refine Ev.step (f := fun _ => some (S out, 0)) (fun k => ?_) (Ev.now _)
  simp only [runes_Fill.l0]
  rw [if_neg (by omega)]
theorem fill_f {A B C : Bs} {x y : ByteArray} (h : Dec (L p) A B C) (hp : p.size ≤ 65536) : Ev (fun k => runes_Fill.f k p [x, y]) (res (A ++ (L x ++ (B ++ (L y ++ C))))) := by
  have hl := h.len
  rw [L_len] at hl
  obtain ⟨ha, hb, hc, e⟩ := h
  refine Ev.congr (f := fun k => runes_Fill.l0 k p [x, y] [] 0) (fun k => by unfold runes_Fill.f; rw [if_neg (by omega)]) ?_
  have d1 : (L p).drop A.length = 123 :: 48 :: 125 :: (B ++ (o1 ++ C)) := by rw [e, List.drop_left]; rfl
  have d2 : (L p).drop (A.length + 3) = B ++ (o1 ++ C) := by rw [← List.drop_drop, d1]; rfl
  have d3 : (L p).drop (A.length + 3 + B.length) = 123 :: 49 :: 125 :: C := by rw [← List.drop_drop, d2, List.drop_left]; rfl
  have d4 : (L p).drop (A.length + 3 + B.length + 3) = C := by rw [← List.drop_drop, d3]; rfl
  generalize hT : A ++ (L x ++ (B ++ (L y ++ C))) = T
  have hTl : T.length = A.length + x.size + B.length + y.size + C.length := by rw [← hT]; simp only [List.length_append, L_len]; omega
  refine fill_seg hp T (o0 ++ (B ++ (o1 ++ C))) A 0 [] (by simpa using e) ha (by simp) (by simp; omega) (fun g1 => ?_)
  rw [List.nil_append] at g1 ⊢
  rw [Nat.zero_add]
  refine fill_item hp T _ d1 (j := 0) rfl (by omega) (x := x) rfl g1 (by rw [List.length_append, L_len]; omega) (fun g2 => ?_)
  refine fill_seg hp T (o1 ++ C) B _ _ d2 hb g2 (by simp only [List.length_append, L_len]; omega) (fun g3 => ?_)
  refine fill_item hp T _ d3 (j := 1) rfl (by omega) (x := y) rfl g3 (by simp only [List.length_append, L_len]; omega) (fun g4 => ?_)
  refine fill_seg hp T [] C _ _ (by rw [d4, List.append_nil]) hc g4 (by simp only [List.length_append, L_len]; omega) (fun g5 => ?_)
  have : A ++ L x ++ B ++ L y ++ C = T := by rw [← hT]; simp
  rw [this] at g5 ⊢
  exact fill_end (by omega) g5

/-! the document's -/
def nm (l : Bs) : List Int := l.map fun b => (b.toNat : Int)
theorem nm_app (a b : Bs) : nm (a ++ b) = nm a ++ nm b := by simp [nm]
theorem nm_len (a : Bs) : (nm a).length = a.length := by simp [nm]
theorem nm_bytes (s : ByteArray) : bytesOf s = nm (L s) := rfl
theorem str_nm (a : Bs) : strOfNums (nm a) = S a := by
  unfold strOfNums nm
  simp [S, List.map_map, Function.comp_def]
theorem wn {i : Nat} (m : Nat) (h : i ≤ 1000000 := by omega) (hm : m ≤ 10 := by omega) : wrap64 ((i : Int) + (m : Nat)) = ((i + m : Nat) : Int) := by unfold wrap64; omega
theorem rfill_seg (hp : p.size ≤ 65536) (T R : Bs) : ∀ (D : Bs) (i : Nat) (out : Bs), (L p).drop i = D ++ R → NB D → out.length ≤ 1048576 → (out ++ D).length ≤ T.length →
    ((out ++ D).length ≤ 1048576 → Ev (fun k => idiomref01_Fill.l0 k p xs (nm (out ++ D)) ((i + D.length : Nat) : Int)) (res T)) → Ev (fun k => idiomref01_Fill.l0 k p xs (nm out) (i : Int)) (res T) := by
  intro D
  induction D with
  | nil => intro i out _ _ ho _ hc; simpa using hc (by simpa using ho)
  | cons c D ih =>
    intro i out hd hn ho hT hc
    obtain ⟨hi, hb, hd', hg⟩ := bt_drop (R := D ++ R) hd
    have hb' : ¬ bt p (i : Int) = 123 := by rw [hb]; exact ne123 hn.head
    simp only [List.length_append, List.length_cons] at hT hc
    have w1 : wrap64 ((i : Int) + 1) = (i : Int) + 1 := w64 (by omega)
    have w2 : wrap64 (1048576 - ((nm out).length : Int)) = 1048576 - (out.length : Int) := by rw [nm_len]; exact w64 (by omega)
    have px : p.extract ((i : Int)).toNat ((i : Int) + 1).toNat = S [c] := by
      rw [Int.toNat_natCast, show ((i : Int) + 1).toNat = i + 1 by omega, piece_one p i hi, hg hi]
    by_cases hm : out.length = 1048576
    · rw [res_no (l := T) (by omega)]
      refine Ev.step (f := fun _ => some (S [], 2)) (fun k => ?_) (Ev.now _)
      simp only [idiomref01_Fill.l0]
      rw [w1, w2, px, if_pos (by omega), if_pos (by omega), if_pos (by omega), if_pos (by omega), if_neg hb', S_size, if_pos (by simp; omega)]
    · have e : out ++ c :: D = (out ++ [c]) ++ D := by simp
      refine Ev.step (f := fun k => idiomref01_Fill.l0 k p xs (nm (out ++ [c])) ((i + 1 : Nat) : Int)) (fun k => ?_) (ih (i + 1) (out ++ [c]) hd' hn.tail (by simp; omega) (by simp; omega) (fun h => ?_))
      · simp only [idiomref01_Fill.l0]
        rw [w1, w2, px, if_pos (by omega), if_pos (by omega), if_pos (by omega), if_pos (by omega), if_neg hb', S_size, if_neg (by simp; omega), if_pos (by rw [nm_len]; simp; omega), nm_bytes, LS, nm_app]
        rfl
      · rw [← e, show i + 1 + D.length = i + (D.length + 1) by omega]
        exact hc (by rw [← e] at h; simpa using h)
theorem rj1 {i j : Nat} {x : ByteArray} {o : List Int} (k : Nat) (hi : i + 2 < p.size) (hp : p.size ≤ 65536) (hq : (bt p ((i + 1 : Nat) : Int) - 48) % 256 = (j : Int)) (hr : rdOf ByteArray.empty xs (j : Int) = x) (hj : j < xs.length) (ho : o.length ≤ 1048576) :
    idiomref01_Fill.j1 (k + 1) p xs o (i : Int) false = if (x.size : Int) > 1048576 - (o.length : Int) then some (S [], 2) else (if o.length + x.size < 140737488355328 then idiomref01_Fill.l0 k p xs (o ++ bytesOf x) ((i + 3 : Nat) : Int) else none) := by
  have w1 : wrap64 ((i : Int) + 1) = ((i + 1 : Nat) : Int) := wn 1 (by omega)
  have w3 : wrap64 ((i : Int) + 3) = ((i + 3 : Nat) : Int) := wn 3 (by omega)
  have w5 : wrap64 (1048576 - (o.length : Int)) = 1048576 - (o.length : Int) := w64 (by omega)
  have c1 : 0 ≤ ((i + 1 : Nat) : Int) := Int.natCast_nonneg _
  have c2 : ((i + 1 : Nat) : Int) < (p.size : Int) := by omega
  have c3 : 0 ≤ (j : Int) := Int.natCast_nonneg _
  have c4 : (j : Int) < (xs.length : Int) := by omega
  clear hi hp hj ho
  simp only [idiomref01_Fill.j1, Bool.false_eq_true, if_false]
  rw [w1, w3, w5, hq, hr, if_pos c1, if_pos c2, if_pos c3, if_pos c4]
theorem rl0 {i j : Nat} {o : List Int} (k : Nat) (hi : i + 2 < p.size) (hp : p.size ≤ 65536) (hb : bt p (i : Int) = 123) (hb2 : bt p ((i + 2 : Nat) : Int) = 125) (hq : (bt p ((i + 1 : Nat) : Int) - 48) % 256 = (j : Int)) (hdg : idiomref01_Digit.f (bt p ((i + 1 : Nat) : Int)) = some true) (hj : j < xs.length) :
    idiomref01_Fill.l0 (k + 1) p xs o (i : Int) = idiomref01_Fill.j1 k p xs o (i : Int) false := by
  have w1 : wrap64 ((i : Int) + 1) = ((i + 1 : Nat) : Int) := wn 1 (by omega)
  have w2 : wrap64 ((i : Int) + 2) = ((i + 2 : Nat) : Int) := wn 2 (by omega)
  have c1 : 0 ≤ ((i + 1 : Nat) : Int) := Int.natCast_nonneg _
  have c2 : ((i + 1 : Nat) : Int) < (p.size : Int) := by omega
  have c3 : 0 ≤ ((i + 2 : Nat) : Int) := Int.natCast_nonneg _
  have c4 : ((i + 2 : Nat) : Int) < (p.size : Int) := by omega
  have c5 : (i : Int) < (p.size : Int) := by omega
  have c6 : 0 ≤ (i : Int) := Int.natCast_nonneg _
  have c7 : (i : Int) ≤ ((i + 1 : Nat) : Int) := by omega
  have c8 : ((i + 1 : Nat) : Int) ≤ (p.size : Int) := by omega
  have c9 : ¬ ((i + 2 : Nat) : Int) ≥ (p.size : Int) := by omega
  have c10 : ¬ ((j : Int) ≥ (xs.length : Int)) := by omega
  clear hi hp hj
  simp only [idiomref01_Fill.l0]
  rw [w1, w2, if_pos c5, if_pos c6, if_pos c7, if_pos c8, if_pos hb, if_neg c9, if_pos c1, if_pos c2, hdg]
  simp only [Option.bind_some, if_true]
  rw [if_pos c3, if_pos c4, if_pos hb2, hq, decide_eq_false c10]
theorem rfill_item (hp : p.size ≤ 65536) (T R : Bs) {i j : Nat} {c : UInt8} {x : ByteArray} {out : Bs} (hd : (L p).drop i = 123 :: c :: 125 :: R) (hj : c.toNat = 48 + j) (hj9 : j ≤ 9) (hx : xs[j]? = some x) (ho : out.length ≤ 1048576) (hT : (out ++ L x).length ≤ T.length)
    (hc : (out ++ L x).length ≤ 1048576 → Ev (fun k => idiomref01_Fill.l0 k p xs (nm (out ++ L x)) ((i + 3 : Nat) : Int)) (res T)) : Ev (fun k => idiomref01_Fill.l0 k p xs (nm out) (i : Int)) (res T) := by
  obtain ⟨hi, hb, hd', _⟩ := bt_drop hd
  obtain ⟨hi1, hb1, hd1, _⟩ := bt_drop hd'
  obtain ⟨hi2, hb2, hd2, _⟩ := bt_drop hd1
  replace hb : bt p (i : Int) = 123 := hb
  replace hb2 : bt p ((i + 2 : Nat) : Int) = 125 := hb2
  have hjl := (List.getElem?_eq_some_iff.1 hx).1
  clear hd hd' hd1 hd2
  have hq : (bt p ((i + 1 : Nat) : Int) - 48) % 256 = (j : Int) := by rw [hb1]; omega
  have hr : rdOf ByteArray.empty xs (j : Int) = x := by
    unfold rdOf
    rw [Int.toNat_natCast, List.getD_eq_getElem?_getD, hx]; rfl
  have hdg : idiomref01_Digit.f (bt p ((i + 1 : Nat) : Int)) = some true := by
    unfold idiomref01_Digit.f
    have hge : (c.toNat : Int) ≥ 48 := by omega
    have hle : (c.toNat : Int) ≤ 57 := by omega
    rw [hb1, if_pos hge, decide_eq_true hle]
  have h0 := fun k => rl0 (p := p) (xs := xs) (o := nm out) k (i := i) (by omega) hp hb hb2 hq hdg hjl
  have h1 := fun k => rj1 (p := p) (xs := xs) (o := nm out) k (i := i) (by omega) hp hq hr hjl (by rw [nm_len]; exact ho)
  rw [nm_len] at h1
  clear hb hb1 hb2 hq hdg hr
  rw [List.length_append, L_len] at hT hc
  by_cases hm : (x.size : Int) > 1048576 - (out.length : Int)
  · rw [res_no (l := T) (by omega)]
    exact Ev.step h0 (Ev.step (f := fun _ => some (S [], 2)) (fun k => by rw [h1, if_pos hm]) (Ev.now _))
  · have hlt : out.length + x.size < 140737488355328 := by omega
    refine Ev.step h0 (Ev.step (fun k => ?_) (hc (by omega)))
    rw [h1, if_neg hm, if_pos hlt, nm_bytes, nm_app]
theorem rfill_end {i : Nat} {out : Bs} (hi : p.size ≤ i) (ho : out.length ≤ 1048576) : Ev (fun k => idiomref01_Fill.l0 k p xs (nm out) (i : Int)) (res out) := by
  rw [res_yes ho]
  refine Ev.step (f := fun _ => some (S out, 0)) (fun k => ?_) (Ev.now _)
  simp only [idiomref01_Fill.l0]
  rw [if_neg (by omega), str_nm]
theorem rfill_f {A B C : Bs} {x y : ByteArray} (h : Dec (L p) A B C) (hp : p.size ≤ 65536) : Ev (fun k => idiomref01_Fill.f k p [x, y]) (res (A ++ (L x ++ (B ++ (L y ++ C))))) := by
  have hl := h.len
  rw [L_len] at hl
  obtain ⟨ha, hb, hc, e⟩ := h
  refine Ev.congr (f := fun k => idiomref01_Fill.l0 k p [x, y] (nm []) ((0 : Nat) : Int)) (fun k => by unfold idiomref01_Fill.f; rw [if_neg (by omega)]; rfl) ?_
  have d1 : (L p).drop A.length = 123 :: 48 :: 125 :: (B ++ (o1 ++ C)) := by rw [e, List.drop_left]; rfl
  have d2 : (L p).drop (A.length + 3) = B ++ (o1 ++ C) := by rw [← List.drop_drop, d1]; rfl
  have d3 : (L p).drop (A.length + 3 + B.length) = 123 :: 49 :: 125 :: C := by rw [← List.drop_drop, d2, List.drop_left]; rfl
  have d4 : (L p).drop (A.length + 3 + B.length + 3) = C := by rw [← List.drop_drop, d3]; rfl
  generalize hT : A ++ (L x ++ (B ++ (L y ++ C))) = T
  have hTl : T.length = A.length + x.size + B.length + y.size + C.length := by rw [← hT]; simp only [List.length_append, L_len]; omega
  refine rfill_seg hp T (o0 ++ (B ++ (o1 ++ C))) A 0 [] (by simpa using e) ha (by simp) (by simp; omega) (fun g1 => ?_)
  rw [List.nil_append] at g1 ⊢
  rw [Nat.zero_add]
  refine rfill_item hp T _ d1 (j := 0) rfl (by omega) (x := x) rfl g1 (by rw [List.length_append, L_len]; omega) (fun g2 => ?_)
  refine rfill_seg hp T (o1 ++ C) B _ _ d2 hb g2 (by simp only [List.length_append, L_len]; omega) (fun g3 => ?_)
  refine rfill_item hp T _ d3 (j := 1) rfl (by omega) (x := y) rfl g3 (by simp only [List.length_append, L_len]; omega) (fun g4 => ?_)
  refine rfill_seg hp T [] C _ _ (by rw [d4, List.append_nil]) hc g4 (by simp only [List.length_append, L_len]; omega) (fun g5 => ?_)
  have : A ++ L x ++ B ++ L y ++ C = T := by rw [← hT]; simp
  rw [this] at g5 ⊢
  exact rfill_end (by omega) g5
end
end Go.Proofs.Ytalojokihccboaa.Pl
