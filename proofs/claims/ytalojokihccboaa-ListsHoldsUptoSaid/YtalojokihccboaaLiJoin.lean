/- What the printed Ranges and Joins of both sides come to: one text, given as a list of bytes, or that it is too long; conditions: none but what each states. -/
import Derived.Test.YtalojokihccboaaLiFill
import Derived.Test.YtalojokihccboaaPListsx5
import Derived.Test.YtalojokihccboaaPListsx8
import Derived.Test.YtalojokihccboaaPListsx10
import Derived.Test.YtalojokihccboaaPListsx11
namespace Go.Proofs.Ytalojokihccboaa.Pl
open Go.RowKit Go.Proofs.YtalojokihccboaaW.PrintWords Go.Proofs.Ytalojokihccboaa.PLists Pat
set_option linter.unusedVariables false
/-- A pattern's pieces. -/
def pA (p : ByteArray) : Bs := (Lib.cut (L p) o0).1
def pB (p : ByteArray) : Bs := (Lib.cut (Lib.cut (L p) o0).2.1 o1).1
def pC (p : ByteArray) : Bs := (Lib.cut (Lib.cut (L p) o0).2.1 o1).2.1
theorem dec_p {p : ByteArray} (h : pcode p = 0) : p.size ≤ 65536 ∧ Dec (L p) (pA p) (pB p) (pC p) := by
  obtain ⟨hs, A, B, C, hd⟩ := pcode_zero h
  have ea : pA p = A := by unfold pA; rw [hd.cut0]
  have eb : pB p = B := by unfold pB; rw [hd.cut0]; simp only; rw [hd.cut1]
  have ec : pC p = C := by unfold pC; rw [hd.cut0]; simp only; rw [hd.cut1]
  exact ⟨hs, by rw [ea, eb, ec]; exact hd⟩
/-- A pattern with two items in it. -/
def fl (p : ByteArray) (x y : Bs) : Bs := pA p ++ (x ++ (pB p ++ (y ++ pC p)))
theorem fl_len {p : ByteArray} (h : pcode p = 0) (x y : Bs) : (fl p x y).length + 6 = p.size + x.length + y.length := by
  have := (dec_p h).2.len
  rw [L_len] at this
  simp only [fl, List.length_append]; omega
def rng (p x y : ByteArray) : ByteArray × Int := if pcode p = 0 then res (fl p (L x) (L y)) else (S [], pcode p)
theorem Range_f (p x y : ByteArray) : Ev (fun k => lists_Range.f k p x y) (rng p x y) := by
  unfold rng
  by_cases h : pcode p = 0
  · rw [if_pos h]
    obtain ⟨hs, hd⟩ := dec_p h
    refine Ev.congr (f := fun k => (lists_put.f k [S (pA p), x, S (pB p), y, S (pC p)]).bind fun bt => if bt.2 = true then some (bt.1, 0) else some (S [], 2)) (fun k => ?_) ?_
    · unfold lists_Range.f
      rw [chk_f]
      simp only [Option.bind_some]
      rw [if_pos h, cut_f hd hs]
      rfl
    · refine Ev.bind (put_f _ (by simp)) ?_
      have e : flat [S (pA p), x, S (pB p), y, S (pC p)] = fl p (L x) (L y) := by
        simp only [flat_cons, flat_nil, LS, fl, List.append_nil]
      rw [e]
      by_cases hl : (fl p (L x) (L y)).length ≤ 1048576
      · rw [res_yes hl, if_pos hl]; exact Ev.now _
      · rw [res_no hl, if_neg hl]; exact Ev.now _
  · rw [if_neg h]
    refine Ev.congr (f := fun _ => some (S [], pcode p)) (fun k => ?_) (Ev.now _)
    unfold lists_Range.f
    rw [chk_f]
    simp only [Option.bind_some]
    rw [if_neg h]
theorem RRange_f (p x y : ByteArray) : Ev (fun k => idiomref13_Range.f k p x y) (rng p x y) := by
  unfold rng idiomref13_Range.f
  refine Ev.bind (pat_f p) ?_
  by_cases h : pcode p = 0
  · rw [if_pos h, h]
    obtain ⟨hs, hd⟩ := dec_p h
    simp only [if_true]
    refine Ev.bind (rfill_f hd hs) ?_
    exact Ev.now _
  · rw [if_neg h]
    simp only [if_neg h]
    exact Ev.now _

/-- Items joined from place i on. -/
def jg (P : Nat → ByteArray) : Nat → List ByteArray → Bs
  | _, [] => []
  | _, [x] => L x
  | i, x :: y :: r => fl (P i) (L x) (jg P (i + 1) (y :: r))
/-- The pattern at a place. -/
def pat (a b c d : ByteArray) (n i : Nat) : ByteArray := if n = 2 then a else if i = n - 2 then d else if i = 0 then b else c
def jn (a b c d : ByteArray) (l : List ByteArray) : ByteArray × Int := if ccode a b c d = 0 then (if 256 < l.length then (S [], 5) else res (jg (pat a b c d l.length) 0 l)) else (S [], ccode a b c d)
theorem jg_shift {P P' : Nat → ByteArray} (h : ∀ i, P' i = P (i + 1)) : ∀ (xs : List ByteArray) (i : Nat), jg P' i xs = jg P (i + 1) xs
  | [], _ => rfl
  | [x], _ => rfl
  | x :: y :: r, i => by
    rw [jg, jg, h, jg_shift h (y :: r) (i + 1)]
theorem rd_drop {l : List ByteArray} {i : Nat} {x : ByteArray} {r : List ByteArray} (h : l.drop i = x :: r) : i < l.length ∧ rdOf ByteArray.empty l (i : Int) = x ∧ l.drop (i + 1) = r ∧ r.length + i + 1 = l.length := by
  have hlt : i < l.length := by
    rcases Nat.lt_or_ge i l.length with h' | h'
    · exact h'
    · rw [List.drop_of_length_le h'] at h; cases h
  have hlen := congrArg List.length h
  rw [List.length_drop, List.length_cons] at hlen
  rw [List.drop_eq_getElem_cons hlt] at h
  injection h with h1 h2
  refine ⟨hlt, ?_, h2, by omega⟩
  unfold rdOf
  rw [Int.toNat_natCast, List.getD_eq_getElem?_getD, List.getElem?_eq_getElem hlt, h1]; rfl

section
variable {a b c d : ByteArray} {l : List ByteArray}
theorem put_two (C tail : ByteArray) : Ev (fun k => lists_put.f k [C, tail]) (if (L C ++ L tail).length ≤ 1048576 then (S (L C ++ L tail), true) else (S [], false)) := by
  have := put_f [C, tail] (by simp)
  have e : flat [C, tail] = L C ++ L tail := by simp [flat]
  rw [e] at this
  exact this
theorem join_j (T : Bs) {p x y : ByteArray} (hp : pcode p = 0) {r : List ByteArray} {i : Nat} {pieces : List ByteArray} {tail : ByteArray} {J : Bs} (hd : l.drop i = x :: r) (h256 : l.length ≤ 256) (hpl : pieces.length = 3 * i) (hT : flat pieces ++ (fl p (L x) J ++ L tail) = T)
    (hc : ∀ tail', L tail' = pC p ++ L tail → Ev (fun k => lists_Join.l0 k l (pieces ++ [S (pA p), x, S (pB p)]) tail' ((l.length - 1 : Nat) : Int) ((i + 1 : Nat) : Int) a b c d) (res T)) :
    Ev (fun k => lists_Join.j1 k l pieces tail (i : Int) p ((l.length - 1 : Nat) : Int) (i : Int) a b c d) (res T) := by
  obtain ⟨hlt, hr, _, _⟩ := rd_drop hd
  obtain ⟨hs, hdec⟩ := dec_p hp
  have w1 : wrap64 ((i : Int) + 1) = ((i + 1 : Nat) : Int) := wn 1 (by omega)
  have c1 : 0 ≤ (i : Int) := Int.natCast_nonneg _
  have c2 : (i : Int) < (l.length : Int) := by omega
  have c3 : pieces.length + [S (pA p), x, S (pB p)].length < 8796093022208 := by simp only [List.length_cons, List.length_nil]; omega
  refine Ev.step (f := fun k => (lists_put.f k [S (pC p), tail]).bind fun bt146 => if bt146.2 = true then lists_Join.l0 k l (pieces ++ [S (pA p), x, S (pB p)]) bt146.1 ((l.length - 1 : Nat) : Int) ((i + 1 : Nat) : Int) a b c d else some (S [], 2)) (fun k => ?_) ?_
  · simp only [lists_Join.j1]
    rw [cut_f hdec hs]
    simp only [Option.bind_some]
    rw [if_pos c1, if_pos c2, hr, if_pos c3, w1]
  · refine Ev.bind (put_two _ _) ?_
    rw [LS]
    by_cases hl : (pC p ++ L tail).length ≤ 1048576
    · rw [if_pos hl]
      simp only [if_true]
      exact hc _ (LS _)
    · rw [if_neg hl]
      have hlen := congrArg List.length hT
      simp only [fl, List.length_append] at hlen hl
      rw [res_no (by omega)]
      simp only [Bool.false_eq_true, if_false]
      exact Ev.now _
theorem join_l (T : Bs) (h3 : 3 ≤ l.length) (h256 : l.length ≤ 256) (hb : pcode b = 0) (hc : pcode c = 0) (hd : pcode d = 0) : ∀ (xs : List ByteArray) (i : Nat) (pieces : List ByteArray) (tail : ByteArray), l.drop i = xs → xs ≠ [] → pieces.length = 3 * i → flat pieces ++ (jg (pat a b c d l.length) i xs ++ L tail) = T →
    Ev (fun k => lists_Join.l0 k l pieces tail ((l.length - 1 : Nat) : Int) (i : Int) a b c d) (res T) := by
  intro xs
  have w2 : wrap64 ((l.length : Int) - 2) = ((l.length - 2 : Nat) : Int) := by rw [w64 (by omega)]; omega
  have w1 : wrap64 ((l.length : Int) - 1) = ((l.length - 1 : Nat) : Int) := by rw [w64 (by omega)]; omega
  induction xs with
  | nil => intro i pieces tail _ h; exact absurd rfl h
  | cons x r ih =>
    intro i pieces tail hdr _ hpl hT
    obtain ⟨hlt, hr, hdr', hrl⟩ := rd_drop hdr
    match r, ih, hdr, hT, hdr', hrl with
    | [], ih, hdr, hT, hdr', hrl =>
      rw [List.length_nil] at hrl
      have hi : i = l.length - 1 := by omega
      have c0 : ¬ (i : Int) < ((l.length - 1 : Nat) : Int) := by omega
      have c1 : 0 ≤ ((l.length - 1 : Nat) : Int) := Int.natCast_nonneg _
      have c2 : ((l.length - 1 : Nat) : Int) < (l.length : Int) := by omega
      have c3 : pieces.length + [x, tail].length < 8796093022208 := by simp only [List.length_cons, List.length_nil]; omega
      have hr' : rdOf ByteArray.empty l ((l.length - 1 : Nat) : Int) = x := by rw [← hi]; exact hr
      refine Ev.step (f := fun k => (lists_put.f k (pieces ++ [x, tail])).bind fun bt => if bt.2 = true then some (bt.1, 0) else some (S [], 2)) (fun k => ?_) ?_
      · simp only [lists_Join.l0]
        rw [if_neg c0, w1, if_pos c1, if_pos c2, hr']
        simp only [Option.bind_some]
        rw [if_pos c3]
      · refine Ev.bind (put_f _ (by simp only [List.length_append, List.length_cons, List.length_nil]; omega)) ?_
        have e : flat (pieces ++ [x, tail]) = T := by
          rw [flat_app, ← hT]; simp only [flat_cons, flat_nil, List.append_nil, jg]
        rw [e]
        by_cases hl : T.length ≤ 1048576
        · rw [res_yes hl, if_pos hl]; exact Ev.now _
        · rw [res_no hl, if_neg hl]; exact Ev.now _
    | y :: r, ih, hdr, hT, hdr', hrl =>
      rw [List.length_cons] at hrl
      have c0 : (i : Int) < ((l.length - 1 : Nat) : Int) := by omega
      have hp : pcode (pat a b c d l.length i) = 0 := by
        unfold pat
        rw [if_neg (by omega)]
        split
        · exact hd
        · split
          · exact hb
          · exact hc
      have hj := join_j (a := a) (b := b) (c := c) (d := d) T hp (y := y) (J := jg (pat a b c d l.length) (i + 1) (y :: r)) hdr h256 hpl hT (fun tail' ht => ih (i + 1) _ tail' hdr' (by simp) (by simp only [List.length_append, List.length_cons, List.length_nil]; omega) (by
        rw [← hT, ht, flat_app]
        simp only [flat_cons, flat_nil, LS, jg, fl, List.append_nil, List.append_assoc]))
      refine Ev.step (fun k => ?_) hj
      simp only [lists_Join.l0]
      rw [if_pos c0, w2]
      unfold pat
      rw [if_neg (show ¬ l.length = 2 by omega)]
      by_cases h0 : i = 0
      · subst h0
        rw [if_pos (by omega), if_neg (show ¬ 0 = l.length - 2 by omega), if_pos rfl]
      · rw [if_neg (show ¬ (i : Int) = 0 by omega)]
        by_cases h2 : i = l.length - 2
        · rw [if_pos (show (i : Int) = ((l.length - 2 : Nat) : Int) by omega), if_pos h2]
        · rw [if_neg (show ¬ (i : Int) = ((l.length - 2 : Nat) : Int) by omega), if_neg h2, if_neg h0]
theorem Join_f : Ev (fun k => lists_Join.f k a b c d l) (jn a b c d l) := by
  unfold jn
  by_cases h : ccode a b c d = 0
  · rw [if_pos h]
    obtain ⟨ha, hb, hc, hd⟩ := ccode_zero h
    by_cases h5 : 256 < l.length
    · rw [if_pos h5]
      refine Ev.congr (f := fun _ => some (S [], 5)) (fun k => ?_) (Ev.now _)
      unfold lists_Join.f
      rw [Check_f, h]
      simp only [Option.bind_some, if_true]
      rw [if_pos (by omega)]
    · rw [if_neg h5]
      match l, h5 with
      | [], h5 =>
        refine Ev.congr (f := fun _ => some (S [], 0)) (fun k => ?_) (Ev.now _)
        unfold lists_Join.f
        rw [Check_f, h]
        simp only [Option.bind_some, if_true]
        rfl
      | [x], h5 =>
        have hr : rdOf ByteArray.empty [x] 0 = x := rfl
        refine Ev.congr (f := fun _ => some (if (x.size : Int) > 1048576 then (S [], 2) else (x, 0))) (fun k => ?_) ?_
        · unfold lists_Join.f
          rw [Check_f, h]
          simp only [Option.bind_some, if_true, List.length_cons, List.length_nil]
          rw [if_neg (by omega), if_neg (by omega), if_pos (by omega), if_pos (by omega), hr]
          split <;> rfl
        · have e : (if (x.size : Int) > 1048576 then (S [], 2) else (x, 0)) = res (L x) := by
            by_cases hx : (x.size : Int) > 1048576
            · rw [if_pos hx, res_no (by rw [L_len]; omega)]
            · rw [if_neg hx, res_yes (by rw [L_len]; omega), SL]
          rw [e]
          exact Ev.now _
      | [x, y], h5 =>
        obtain ⟨hs, hdec⟩ := dec_p ha
        refine Ev.congr (f := fun k => (runes_Fill.f k a [x, y]).bind fun bt122 => (some (bt122.1, bt122.2))) (fun k => ?_) (Ev.bind (fill_f hdec hs) (Ev.now _))
        unfold lists_Join.f
        rw [Check_f, h]
        simp only [Option.bind_some, if_true, List.length_cons, List.length_nil]
        rw [if_neg (by omega), if_neg (by omega), if_neg (by omega), if_pos (by omega)]
      | x :: y :: z :: r, h5 =>
        generalize hl : x :: y :: z :: r = l at h5
        have h3 : 3 ≤ l.length := by rw [← hl]; simp
        have h256 : l.length ≤ 256 := by omega
        clear h5
        have w1 : wrap64 ((l.length : Int) - 1) = ((l.length - 1 : Nat) : Int) := by rw [w64 (by omega)]; omega
        refine Ev.congr (f := fun k => lists_Join.l0 k l [] (S []) ((l.length - 1 : Nat) : Int) ((0 : Nat) : Int) a b c d) (fun k => ?_) (join_l _ h3 h256 hb hc hd l 0 [] (S []) rfl (by rw [← hl]; simp) rfl (by simp [flat]))
        unfold lists_Join.f
        rw [Check_f, h]
        simp only [Option.bind_some, if_true]
        rw [if_neg (by omega), if_neg (by omega), if_neg (by omega), if_neg (by omega), w1]
        rfl
  · rw [if_neg h]
    refine Ev.congr (f := fun _ => some (S [], ccode a b c d)) (fun k => ?_) (Ev.now _)
    unfold lists_Join.f
    rw [Check_f]
    simp only [Option.bind_some]
    rw [if_neg h]

/-! the document's -/
theorem jg_le {P : Nat → ByteArray} : ∀ (m i : Nat), i ≤ l.length → m ≤ i → (jg P i (l.drop i)).length ≤ (jg P (i - m) (l.drop (i - m))).length := by
  intro m
  induction m with
  | zero => intro i _ _; simp
  | succ m ih =>
    intro i hi hm
    refine Nat.le_trans (ih i hi (by omega)) ?_
    have e : i - m = i - (m + 1) + 1 := by omega
    rw [e]
    generalize hq : i - (m + 1) = q at *
    have hlt : q < l.length := by omega
    rw [List.drop_eq_getElem_cons hlt]
    cases l.drop (q + 1) with
    | nil => simp [jg]
    | cons y r =>
      rw [jg]
      simp only [fl, List.length_append]; omega
theorem rjoin_l (T : Bs) (h2 : 2 ≤ l.length) (h256 : l.length ≤ 256) (ha : pcode a = 0) (hb : pcode b = 0) (hc : pcode c = 0) (hd : pcode d = 0) (hT : T = jg (pat a b c d l.length) 0 l) : ∀ (m : Nat) (x y : ByteArray) (r : List ByteArray), m ≤ l.length → l.drop m = y :: r → L x = jg (pat a b c d l.length) m (y :: r) → x.size ≤ 1048576 →
    Ev (fun k => idiomref13_Join.l0 k l (l.length : Int) x ((m : Int) - 1) a b c d) (res T) := by
  have w2 : wrap64 ((l.length : Int) - 2) = ((l.length - 2 : Nat) : Int) := by rw [w64 (by omega)]; omega
  intro m
  induction m with
  | zero =>
    intro x y r _ hdr hx hxs
    have c0 : ¬ ((0 : Nat) : Int) - 1 ≥ 0 := by omega
    refine Ev.step (f := fun _ => some (x, 0)) (fun k => ?_) ?_
    · simp only [idiomref13_Join.l0]
      rw [if_neg c0]
    · rw [← hdr, List.drop_zero, ← hT] at hx
      rw [← hx, res_yes (by rw [L_len]; exact hxs), SL]
      exact Ev.now _
  | succ m ih =>
    intro x y r hm hdr hx hxs
    have hlt : m < l.length := by omega
    obtain ⟨x0, hx0⟩ : ∃ x0, l.drop m = x0 :: y :: r := ⟨l[m], by rw [List.drop_eq_getElem_cons hlt, hdr]⟩
    obtain ⟨_, hr, _, hrl⟩ := rd_drop hx0
    rw [List.length_cons] at hrl
    have hp : pcode (pat a b c d l.length m) = 0 := by
      unfold pat
      split
      · exact ha
      · split
        · exact hd
        · split
          · exact hb
          · exact hc
    obtain ⟨hs, hdec⟩ := dec_p hp
    have hf := rfill_f (x := x0) (y := x) hdec hs
    have e : pA (pat a b c d l.length m) ++ (L x0 ++ (pB (pat a b c d l.length m) ++ (L x ++ pC (pat a b c d l.length m)))) = jg (pat a b c d l.length) m (x0 :: y :: r) := by
      rw [jg, ← hx]; rfl
    rw [e] at hf
    have w1 : wrap64 ((m : Int) - 1) = (m : Int) - 1 := w64 (by omega)
    have em : ((m + 1 : Nat) : Int) - 1 = (m : Int) := by omega
    have c0 : (m : Int) ≥ 0 := Int.natCast_nonneg _
    have c1 : 0 ≤ (m : Int) := Int.natCast_nonneg _
    have c2 : (m : Int) < (l.length : Int) := by omega
    rw [em]
    refine Ev.step (f := fun k => (idiomref01_Fill.f k (pat a b c d l.length m) [x0, x]).bind fun bt => if bt.2 = 0 then idiomref13_Join.l0 k l (l.length : Int) bt.1 ((m : Int) - 1) a b c d else some (S [], bt.2)) (fun k => ?_) ?_
    · simp only [idiomref13_Join.l0]
      simp only [if_pos c0, if_pos c2, w2, w1, hr]
      unfold pat
      by_cases g2 : l.length = 2
      · rw [if_pos (show (l.length : Int) = 2 by omega), if_pos g2]
      · rw [if_neg (show ¬ (l.length : Int) = 2 by omega), if_neg g2]
        by_cases g3 : m = l.length - 2
        · rw [if_pos (show (m : Int) = ((l.length - 2 : Nat) : Int) by omega), if_pos g3]
        · rw [if_neg (show ¬ (m : Int) = ((l.length - 2 : Nat) : Int) by omega), if_neg g3]
          by_cases g4 : m = 0
          · rw [if_pos (show (m : Int) = 0 by omega), if_pos g4]
          · rw [if_neg (show ¬ (m : Int) = 0 by omega), if_neg g4]
    · refine Ev.bind hf ?_
      by_cases hl : (jg (pat a b c d l.length) m (x0 :: y :: r)).length ≤ 1048576
      · rw [res_yes hl]
        simp only [if_true]
        exact ih (S _) x0 (y :: r) (by omega) hx0 (LS _) (by rw [S_size]; exact hl)
      · rw [res_no hl]
        have := jg_le (P := pat a b c d l.length) (l := l) m m (by omega) (Nat.le_refl _)
        rw [hx0, Nat.sub_self, List.drop_zero, ← hT] at this
        rw [res_no (l := T) (by omega)]
        exact Ev.now _
theorem RJoin_f : Ev (fun k => idiomref13_Join.f k a b c d l) (jn a b c d l) := by
  unfold jn idiomref13_Join.f
  refine Ev.bind (RCheck_f a b c d) ?_
  by_cases h : ccode a b c d = 0
  · obtain ⟨ha, hb, hc, hd⟩ := ccode_zero h
    rw [h]
    simp only [if_true]
    by_cases h5 : 256 < l.length
    · rw [if_pos h5]
      refine Ev.congr (f := fun _ => some (S [], 5)) (fun k => ?_) (Ev.now _)
      rw [if_pos (by omega)]
    · rw [if_neg h5]
      by_cases h0 : l = []
      · subst h0
        exact Ev.now _
      · have hpos : 0 < l.length := List.length_pos_iff.2 h0
        have w1 : wrap64 ((l.length : Int) - 1) = ((l.length - 1 : Nat) : Int) := by rw [w64 (by omega)]; omega
        have w2 : wrap64 ((l.length : Int) - 2) = ((l.length - 1 : Nat) : Int) - 1 := by rw [w64 (by omega)]; omega
        have hlt : l.length - 1 < l.length := by omega
        obtain ⟨y, hy⟩ : ∃ y, l.drop (l.length - 1) = [y] := ⟨l[l.length - 1], by rw [List.drop_eq_getElem_cons hlt, List.drop_of_length_le (by omega)]⟩
        obtain ⟨_, hr, _, _⟩ := rd_drop hy
        have c1 : ¬ (l.length : Int) > 256 := by omega
        have c2 : ¬ (l.length : Int) = 0 := by omega
        have c3 : 0 ≤ ((l.length - 1 : Nat) : Int) := Int.natCast_nonneg _
        have c4 : ((l.length - 1 : Nat) : Int) < (l.length : Int) := by omega
        simp only [if_neg c1, if_neg c2, w1, w2, if_pos c3, if_pos c4, hr]
        by_cases hy1 : (y.size : Int) > 1048576
        · simp only [if_pos hy1]
          have := jg_le (P := pat a b c d l.length) (l := l) (l.length - 1) (l.length - 1) (by omega) (Nat.le_refl _)
          rw [hy, Nat.sub_self, List.drop_zero, jg, L_len] at this
          rw [res_no (by omega)]
          exact Ev.now _
        · simp only [if_neg hy1]
          by_cases h2 : 2 ≤ l.length
          · exact rjoin_l _ h2 (by omega) ha hb hc hd rfl (l.length - 1) y y [] (by omega) hy (by rw [jg]) (by omega)
          · have hl1 : l.length = 1 := by omega
            rw [hl1] at hy ⊢
            simp only [Nat.sub_self, List.drop_zero] at hy
            subst hy
            rw [jg, res_yes (by rw [L_len]; omega), SL]
            refine Ev.step (f := fun _ => some (y, 0)) (fun k => ?_) (Ev.now _)
            simp only [idiomref13_Join.l0]
            rw [if_neg (by omega)]
  · rw [if_neg h]
    simp only [if_neg h]
    exact Ev.now _
end
end Go.Proofs.Ytalojokihccboaa.Pl
