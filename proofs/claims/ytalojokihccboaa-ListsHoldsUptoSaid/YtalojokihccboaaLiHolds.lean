/- The law ListsHolds, printed, tells yes; conditions: none. -/
import Derived.Test.YtalojokihccboaaLiAwake
import Derived.Test.YtalojokihccboaaPListsx10
namespace Go.Proofs.Ytalojokihccboaa.Pl
open Go.RowKit Go.Proofs.YtalojokihccboaaW.PrintWords Go.Proofs.Ytalojokihccboaa.PLists Pat
/-- Items found one behind another. -/
def Emb : List ByteArray → Bs → Prop
  | [], _ => True
  | x :: xs, t => ∃ u v, t = u ++ (L x ++ v) ∧ Emb xs v
theorem Emb.pre : ∀ {xs : List ByteArray} {t : Bs} (w : Bs), Emb xs t → Emb xs (w ++ t)
  | [], _, _, _ => trivial
  | x :: xs, t, w, ⟨u, v, e, h⟩ => ⟨w ++ u, v, by rw [e, List.append_assoc], h⟩
theorem emb_jg (P : Nat → ByteArray) : ∀ (xs : List ByteArray) (i : Nat) (s : Bs), Emb xs (jg P i xs ++ s)
  | [], _, _ => trivial
  | [x], _, s => ⟨[], s, rfl, trivial⟩
  | x :: y :: r, i, s => ⟨pA (P i), pB (P i) ++ (jg P (i + 1) (y :: r) ++ (pC (P i) ++ s)), by rw [jg, fl]; simp only [List.append_assoc], (emb_jg P (y :: r) (i + 1) _).pre _⟩
theorem find_l {t x : ByteArray} (ht : t.size ≤ 1048576) (v : Bs) : ∀ (u : Bs) (i : Nat), (L t).drop i = u ++ (L x ++ v) → i ≤ t.size → ∃ j : Nat, Ev (fun k => idiomlaw13_find.l0 k t x (i : Int)) (j : Int) ∧ j + x.size ≤ t.size ∧ ∃ w, (L t).drop (j + x.size) = w ++ v := by
  intro u
  have key : ∀ (u : Bs) (i : Nat), (L t).drop i = u ++ (L x ++ v) → i ≤ t.size → i + x.size + u.length ≤ t.size ∧ ∀ k, idiomlaw13_find.l0 (k + 1) t x (i : Int) = if ((L t).drop i).take x.size = L x then some (i : Int) else idiomlaw13_find.l0 k t x ((i + 1 : Nat) : Int) := by
    intro u i hd hi
    have hlen := congrArg List.length hd
    simp only [List.length_drop, List.length_append, L_len] at hlen
    have hle : i + x.size + u.length ≤ t.size := by omega
    refine ⟨hle, fun k => ?_⟩
    have w1 : wrap64 ((i : Int) + (x.size : Int)) = ((i + x.size : Nat) : Int) := by rw [w64 (by omega)]; omega
    have w2 : wrap64 ((i : Int) + 1) = ((i + 1 : Nat) : Int) := by rw [w64 (by omega)]; omega
    have c0 : ((i + x.size : Nat) : Int) ≤ (t.size : Int) := by omega
    have c1 : 0 ≤ (i : Int) := Int.natCast_nonneg _
    have c2 : (i : Int) ≤ ((i + x.size : Nat) : Int) := by omega
    have e : (t.extract (i : Int).toNat ((i + x.size : Nat) : Int).toNat).toList = ((L t).drop i).take x.size := by
      rw [toList_data, Int.toNat_natCast, Int.toNat_natCast]
      simp only [ByteArray.data_extract, Array.toList_extract, List.extract_eq_take_drop]
      congr 1; omega
    simp only [idiomlaw13_find.l0]
    rw [w1, w2, if_pos c0, if_pos c1, if_pos c2, e, toList_data]
  induction u with
  | nil =>
    intro i hd hi
    obtain ⟨hle, hk⟩ := key [] i hd hi
    rw [List.length_nil] at hle
    have hy : ((L t).drop i).take x.size = L x := by rw [hd, List.nil_append, ← L_len, List.take_left]
    refine ⟨i, Ev.step (f := fun _ => some (i : Int)) (fun k => by rw [hk, if_pos hy]) (Ev.now _), by omega, [], ?_⟩
    rw [← List.drop_drop, hd, List.nil_append, ← L_len, List.drop_left]; rfl
  | cons c u ih =>
    intro i hd hi
    obtain ⟨hle, hk⟩ := key (c :: u) i hd hi
    by_cases hy : ((L t).drop i).take x.size = L x
    · refine ⟨i, Ev.step (f := fun _ => some (i : Int)) (fun k => by rw [hk, if_pos hy]) (Ev.now _), by omega, (c :: u ++ L x).drop x.size, ?_⟩
      rw [← List.drop_drop, hd, ← List.append_assoc, List.drop_append_of_le_length (by rw [List.length_append, L_len]; omega)]
    · rw [List.length_cons] at hle
      obtain ⟨j, hj, hj2, w, hw⟩ := ih (i + 1) (by rw [← List.drop_drop, hd]; rfl) (by omega)
      exact ⟨j, Ev.step (fun k => by rw [hk, if_neg hy]) hj, hj2, w, hw⟩

def tot : List ByteArray → Nat
  | [] => 0
  | x :: xs => x.size + tot xs
theorem six {p : ByteArray} (h : pcode p = 0) : 6 ≤ p.size ∧ p.size ≤ 65536 := by
  obtain ⟨hs, hd⟩ := dec_p h
  have := hd.len
  rw [L_len] at this
  exact ⟨by omega, hs⟩
section
variable {a b c d : ByteArray}
theorem jg_len1 {n : Nat} (h3 : 3 ≤ n) (hc : pcode c = 0) (hd : pcode d = 0) : ∀ (r : List ByteArray) (x y : ByteArray) (i : Nat), 1 ≤ i → i + (r.length + 2) = n → (jg (pat a b c d n) i (x :: y :: r)).length = tot (x :: y :: r) + r.length * (c.size - 6) + (d.size - 6) := by
  have sc := six hc
  have sd := six hd
  intro r
  induction r with
  | nil =>
    intro x y i hi hn
    have hp : pat a b c d n i = d := by
      unfold pat
      rw [if_neg (by omega), if_pos (by simp only [List.length_nil] at hn; omega)]
    have := fl_len hd (L x) (L y)
    rw [L_len, L_len] at this
    rw [jg, hp, jg, List.length_nil, Nat.zero_mul]
    simp only [tot]; omega
  | cons z r ih =>
    intro x y i hi hn
    rw [List.length_cons] at hn
    have hp : pat a b c d n i = c := by
      unfold pat
      rw [if_neg (by omega), if_neg (by omega), if_neg (by omega)]
    have h1 := ih y z (i + 1) (by omega) (by omega)
    have := fl_len hc (L x) (jg (pat a b c d n) (i + 1) (y :: z :: r))
    rw [L_len, h1] at this
    rw [jg, hp, List.length_cons, Nat.succ_mul]
    simp only [tot] at this ⊢
    omega
/-- The length that the law asks. -/
def want (a b c d : ByteArray) (l : List ByteArray) : Nat := if l.length = 2 then tot l + a.size - 6 else if 2 < l.length then tot l + b.size - 6 + (l.length - 3) * (c.size - 6) + d.size - 6 else tot l
theorem jg_len (ha : pcode a = 0) (hb : pcode b = 0) (hc : pcode c = 0) (hd : pcode d = 0) : ∀ l : List ByteArray, (jg (pat a b c d l.length) 0 l).length = want a b c d l
  | [] => rfl
  | [x] => by simp [jg, want, tot]
  | [x, y] => by
    have := fl_len ha (L x) (L y)
    rw [L_len, L_len] at this
    simp only [jg, want, pat, tot, List.length_cons, List.length_nil, if_true]
    omega
  | x :: y :: z :: r => by
    have sb := six hb
    have sc := six hc
    have sd := six hd
    have h1 := jg_len1 (a := a) (b := b) (n := (x :: y :: z :: r).length) (by simp) hc hd r y z 1 (by omega) (by simp only [List.length_cons]; omega)
    have hp : pat a b c d (x :: y :: z :: r).length 0 = b := by
      unfold pat
      simp only [List.length_cons]
      rw [if_neg (by omega), if_neg (by omega), if_pos trivial]
    have := fl_len hb (L x) (jg (pat a b c d (x :: y :: z :: r).length) (0 + 1) (y :: z :: r))
    rw [L_len, Nat.zero_add, h1] at this
    unfold want
    rw [if_neg (by simp only [List.length_cons]; omega), if_pos (by simp only [List.length_cons]; omega), jg, hp, Nat.zero_add]
    rw [show (x :: y :: z :: r).length - 3 = r.length by simp only [List.length_cons]; omega]
    simp only [tot] at this ⊢
    omega
theorem tot_le (a b c d : ByteArray) (l : List ByteArray) (ha : pcode a = 0) (hb : pcode b = 0) (hd : pcode d = 0) : tot l ≤ want a b c d l := by
  have sa := six ha
  have sb := six hb
  have sd := six hd
  unfold want
  split
  · omega
  · split <;> omega

theorem fin_two {s A T : Nat} (h : T = s + A - 6) (hA : 6 ≤ A ∧ A ≤ 65536) (hs : s ≤ 1048576) : (T : Int) = wrap64 (wrap64 ((s : Int) + (A : Int)) - 6) := by
  rw [w64 (x := (s : Int) + (A : Int)) (by omega), w64 (by omega)]; omega
theorem fin_more {s n B C D T : Nat} (h3 : 2 < n) (h256 : n ≤ 256) (h : T = s + B - 6 + (n - 3) * (C - 6) + D - 6) (hB : 6 ≤ B ∧ B ≤ 65536) (hC : 6 ≤ C ∧ C ≤ 65536) (hD : 6 ≤ D ∧ D ≤ 65536) (hs : s ≤ 1048576) :
    (T : Int) = wrap64 (wrap64 (wrap64 (wrap64 (wrap64 ((s : Int) + (B : Int)) - 6) + wrap64 (wrap64 ((n : Int) - 3) * wrap64 ((C : Int) - 6))) + (D : Int)) - 6) := by
  have hq : (n - 3) * (C - 6) ≤ 256 * 65536 := Nat.mul_le_mul (by omega) (by omega)
  have w3 : wrap64 ((n : Int) - 3) = ((n - 3 : Nat) : Int) := by rw [w64 (by omega)]; omega
  have w4 : wrap64 ((C : Int) - 6) = ((C - 6 : Nat) : Int) := by rw [w64 (by omega)]; omega
  rw [w3, w4, ← Int.natCast_mul]
  generalize (n - 3) * (C - 6) = q at h hq
  rw [w64 (x := (s : Int) + (B : Int)) (by omega), w64 (x := (s : Int) + (B : Int) - 6) (by omega), w64 (x := (q : Int)) (by omega), w64 (x := (s : Int) + (B : Int) - 6 + (q : Int)) (by omega), w64 (x := (s : Int) + (B : Int) - 6 + (q : Int) + (D : Int)) (by omega), w64 (by omega)]
  omega
theorem wa {a b : Nat} (h : a + b ≤ 1048576) : wrap64 ((a : Int) + (b : Int)) = ((a + b : Nat) : Int) := by rw [w64 (by omega)]; omega
theorem holds_l {l : List ByteArray} {t : ByteArray} (ht : t.size ≤ 1048576) (h256 : l.length ≤ 256) (ha : pcode a = 0) (hb : pcode b = 0) (hc : pcode c = 0) (hd : pcode d = 0) (hw : t.size = want a b c d l) : ∀ (xs : List ByteArray) (i at' s : Nat), l.drop i = xs → i ≤ l.length → at' ≤ t.size → Emb xs ((L t).drop at') → s + tot xs = tot l →
    Ev (fun k => idiomlaw13_ListsHolds.l0 k l t (at' : Int) (s : Int) (i : Int) a b c d) true := by
  have htl := tot_le a b c d l ha hb hd
  have sa := six ha
  have sb := six hb
  have sc := six hc
  have sd := six hd
  intro xs
  induction xs with
  | nil =>
    intro i at' s hdr hi _ _ hs
    rw [tot, Nat.add_zero] at hs
    have hil : i = l.length := by
      have := congrArg List.length hdr
      rw [List.length_drop, List.length_nil] at this
      omega
    have aw : Ev (fun k => (idiomlaw13_awake.f k).bind fun t208 => some t208) true := Ev.bind awake_f (Ev.now _)
    refine Ev.step (fun k => ?_) aw
    simp only [idiomlaw13_ListsHolds.l0]
    rw [if_neg (by omega)]
    unfold want at hw
    by_cases g2 : l.length = 2
    · rw [if_pos g2] at hw
      rw [if_pos (show (l.length : Int) = 2 by omega), if_pos (fin_two (by rw [hw, hs]) sa (by omega))]
    · rw [if_neg g2] at hw
      rw [if_neg (show ¬ (l.length : Int) = 2 by omega)]
      by_cases g3 : 2 < l.length
      · rw [if_pos g3] at hw
        rw [if_pos (show (l.length : Int) > 2 by omega), if_pos (fin_more g3 h256 (by rw [hw, hs]) sb sc sd (by omega))]
      · rw [if_neg g3] at hw
        rw [if_neg (show ¬ (l.length : Int) > 2 by omega), if_pos (by omega)]
  | cons x r ih =>
    intro i at' s hdr hi hat hemb hs
    obtain ⟨hlt, hr, hdr', _⟩ := rd_drop hdr
    obtain ⟨u, v, hu, hv⟩ := hemb
    obtain ⟨j, hj, hj2, w, hw2⟩ := find_l ht v u at' hu hat
    rw [tot] at hs
    have hT : tot l ≤ 1048576 := Nat.le_trans htl (hw ▸ ht)
    clear htl hw sa sb sc sd
    have hs1 : s + x.size + tot r = tot l := by rw [Nat.add_assoc]; exact hs
    have hs2 : s + x.size ≤ 1048576 := Nat.le_trans (Nat.le_add_right _ _) (hs1 ▸ hT)
    clear hs hT
    have w1 := wa (Nat.le_trans hj2 ht)
    have w2 := wa hs2
    have w3 := wa (b := 1) (Nat.le_trans (Nat.succ_le_of_lt hlt) (Nat.le_trans h256 (by decide)))
    have c0 : (i : Int) < (l.length : Int) := Int.ofNat_lt.2 hlt
    have c1 : 0 ≤ (i : Int) := Int.natCast_nonneg _
    have c2 : ¬ (j : Int) < 0 := Int.not_lt.2 (Int.natCast_nonneg _)
    refine Ev.step (f := fun k => (idiomlaw13_find.f k t x (at' : Int)).bind fun t205 => (if t205 < 0 then (some false) else (idiomlaw13_ListsHolds.l0 k l t (wrap64 (t205 + (x.size : Int))) (wrap64 ((s : Int) + (x.size : Int))) (wrap64 ((i : Int) + (1 : Nat))) a b c d))) (fun k => ?_) ?_
    · simp only [idiomlaw13_ListsHolds.l0]
      rw [if_pos c0, if_pos c1, hr]
      rfl
    · refine Ev.bind (Ev.congr (fun k => by unfold idiomlaw13_find.f; rfl) hj) ?_
      simp only [if_neg c2]
      rw [w1, w2, w3]
      exact ih (i + 1) (j + x.size) (s + x.size) hdr' (Nat.succ_le_of_lt hlt) hj2 (by rw [hw2]; exact hv.pre w) hs1
theorem holds_true (a b c d : ByteArray) (l : List ByteArray) : Ev (fun k => idiomlaw13_ListsHolds.f k a b c d l) true := by
  unfold idiomlaw13_ListsHolds.f
  refine Ev.bind Join_f ?_
  by_cases h : (jn a b c d l).2 = 0
  · simp only [if_pos h]
    have hz : ccode a b c d = 0 ∧ l.length ≤ 256 ∧ (jg (pat a b c d l.length) 0 l).length ≤ 1048576 ∧ (jn a b c d l).1 = S (jg (pat a b c d l.length) 0 l) := by
      unfold jn at h ⊢
      by_cases hc : ccode a b c d = 0
      · rw [if_pos hc] at h ⊢
        by_cases h5 : 256 < l.length
        · rw [if_pos h5] at h; cases h
        · rw [if_neg h5] at h ⊢
          by_cases hl : (jg (pat a b c d l.length) 0 l).length ≤ 1048576
          · exact ⟨hc, by omega, hl, by rw [res_yes hl]⟩
          · rw [res_no hl] at h; cases h
      · rw [if_neg hc] at h
        exact absurd h hc
    obtain ⟨hcc, h256, hT, e⟩ := hz
    obtain ⟨ha, hb, hc, hd⟩ := ccode_zero hcc
    rw [e]
    have hlen := jg_len ha hb hc hd l
    exact holds_l (by rw [S_size]; exact hT) h256 ha hb hc hd (by rw [S_size]; exact hlen) l 0 0 0 rfl (by omega) (by omega) (by
      rw [LS, List.drop_zero]
      have := emb_jg (pat a b c d l.length) l 0 []
      rw [List.append_nil] at this
      exact this) (by omega)
  · simp only [if_neg h]
    refine Ev.bind RJoin_f ?_
    simp only [if_true]
    exact Ev.bind awake_f (Ev.now _)
end
end Go.Proofs.Ytalojokihccboaa.Pl
