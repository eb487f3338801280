/- Plain facts on list patterns as lists of bytes: a text without braces but for {0} and {1} in this order; where the library's index finds them, what its cut cuts, what a scan tells. No Go. -/
import Derived.Lib.IndexMore
import Derived.Lib.IndexLaws
import Derived.Lib.Bytealg
namespace Go.Proofs.Ytalojokihccboaa.Pat
open Go
abbrev Bs := List UInt8
def o0 : Bs := [123, 48, 125]
def o1 : Bs := [123, 49, 125]
/-- No opening brace. -/
def NB (l : Bs) : Prop := ∀ c ∈ l, c ≠ (123 : UInt8)
theorem NB.nil : NB [] := fun _ h => by cases h
theorem NB.cons {c : UInt8} {l : Bs} (h : c ≠ 123) (hl : NB l) : NB (c :: l) := fun d hd => by
  rcases List.mem_cons.1 hd with rfl | hd
  · exact h
  · exact hl d hd
theorem NB.head {c : UInt8} {l : Bs} (h : NB (c :: l)) : c ≠ 123 := h c (by simp)
theorem NB.tail {c : UInt8} {l : Bs} (h : NB (c :: l)) : NB l := fun d hd => h d (by simp [hd])
theorem NB.app {a b : Bs} (ha : NB a) (hb : NB b) : NB (a ++ b) := fun d hd => by
  rcases List.mem_append.1 hd with h | h
  · exact ha d h
  · exact hb d h
theorem NB.left {a b : Bs} (h : NB (a ++ b)) : NB a := fun d hd => h d (by simp [hd])
theorem NB.right {a b : Bs} (h : NB (a ++ b)) : NB b := fun d hd => h d (by simp [hd])
theorem NB.count {l : Bs} (h : NB l) : l.count 123 = 0 := List.count_eq_zero.2 (fun hm => h 123 hm rfl)
theorem NB.of_count {l : Bs} (h : l.count 123 = 0) : NB l := fun _ hc e => List.count_eq_zero.1 h (e ▸ hc)
/-- A pattern's three pieces. -/
def Dec (l A B C : Bs) : Prop := NB A ∧ NB B ∧ NB C ∧ l = A ++ (o0 ++ (B ++ (o1 ++ C)))

theorem index_cons_no {c : UInt8} {l sub : Bs} {j : Nat} (h : sub.isPrefixOf (c :: l) = false) (hj : Lib.index l sub = j) : Lib.index (c :: l) sub = ((j + 1 : Nat) : Int) := by
  unfold Lib.index
  rw [h, hj]
  simp
theorem index_nb {A R t : Bs} {j : Nat} (hA : NB A) (hj : Lib.index R (123 :: t) = j) : Lib.index (A ++ R) (123 :: t) = ((A.length + j : Nat) : Int) := by
  induction A with
  | nil => simpa using hj
  | cons a A ih =>
    have hi := ih hA.tail
    have hp : (123 :: t).isPrefixOf (a :: (A ++ R)) = false := by
      simp [List.isPrefixOf]
      intro e; exact absurd e.symm hA.head
    rw [List.cons_append, index_cons_no hp hi, List.length_cons]
    congr 1; omega
theorem index_here (t R : Bs) : Lib.index (123 :: t ++ R) (123 :: t) = ((0 : Nat) : Int) := by
  have : (123 :: t).isPrefixOf ((123 : UInt8) :: (t ++ R)) = true := by
    rw [List.isPrefixOf_iff_prefix]; exact List.prefix_append (123 :: t) R
  rw [List.cons_append]
  unfold Lib.index
  rw [this]; simp
theorem index_o0 {A R : Bs} (hA : NB A) : Lib.index (A ++ (o0 ++ R)) o0 = (A.length : Int) := by
  have := index_nb (t := [48, 125]) hA (index_here [48, 125] R)
  simpa [o0] using this
theorem index_o1 {A R : Bs} (hA : NB A) : Lib.index (A ++ (o1 ++ R)) o1 = (A.length : Int) := by
  have := index_nb (t := [49, 125]) hA (index_here [49, 125] R)
  simpa [o1] using this
theorem index_o1_past {R : Bs} {j : Nat} (hj : Lib.index R o1 = j) : Lib.index (o0 ++ R) o1 = ((j + 3 : Nat) : Int) := by
  have h3 := index_cons_no (c := 125) (sub := o1) (l := R) (by simp [o1, List.isPrefixOf]) hj
  have h2 := index_cons_no (c := 48) (sub := o1) (l := 125 :: R) (by simp [o1, List.isPrefixOf]) h3
  have h1 := index_cons_no (c := 123) (sub := o1) (l := 48 :: 125 :: R) (by simp [o1, List.isPrefixOf]) h2
  exact h1
theorem Dec.idx0 {l A B C : Bs} (h : Dec l A B C) : Lib.index l o0 = (A.length : Int) := by
  obtain ⟨ha, _, _, rfl⟩ := h; exact index_o0 ha
theorem Dec.idx1 {l A B C : Bs} (h : Dec l A B C) : Lib.index l o1 = ((A.length + (B.length + 3) : Nat) : Int) := by
  obtain ⟨ha, hb, _, rfl⟩ := h
  have h1 := index_o1_past (index_o1 (A := B) (R := C) hb)
  exact index_nb (t := [49, 125]) ha h1
theorem Dec.count {l A B C : Bs} (h : Dec l A B C) : l.count 123 = 2 := by
  obtain ⟨ha, hb, hc, rfl⟩ := h
  simp only [List.count_append, ha.count, hb.count, hc.count]
  rfl
theorem Dec.len {l A B C : Bs} (h : Dec l A B C) : l.length = A.length + B.length + C.length + 6 := by
  obtain ⟨_, _, _, rfl⟩ := h
  simp [o0, o1]; omega
theorem Dec.cut0 {l A B C : Bs} (h : Dec l A B C) : Lib.cut l o0 = (A, B ++ (o1 ++ C), true) := by
  have hi := h.idx0
  obtain ⟨_, _, _, rfl⟩ := h
  unfold Lib.cut
  rw [hi, if_pos (by omega)]
  simp [o0]
theorem Dec.cut1 {l A B C : Bs} (h : Dec l A B C) : Lib.cut (B ++ (o1 ++ C)) o1 = (B, C, true) := by
  have hi := index_o1 (R := C) h.2.1
  unfold Lib.cut
  rw [hi, if_pos (by omega)]
  simp [o1]

theorem at_occ {l sub : Bs} {i : Nat} (h : Lib.occAt l sub i = true) : ∃ R, l.drop i = sub ++ R := by
  unfold Lib.occAt at h
  rw [List.isPrefixOf_iff_prefix] at h
  obtain ⟨R, hR⟩ := h
  exact ⟨R, hR.symm⟩
/-- What the program asks of a pattern makes it one. -/
theorem dec_of {l : Bs} (h0 : 0 ≤ Lib.index l o0) (h1 : Lib.index l o0 ≤ Lib.index l o1) (hc : l.count 123 = 2) : ∃ A B C, Dec l A B C := by
  rcases Lib.index_spec l o0 with ⟨e, _⟩ | ⟨i, hi, hil, hio, _⟩
  · omega
  rcases Lib.index_spec l o1 with ⟨e, _⟩ | ⟨j, hj, hjl, hjo, _⟩
  · omega
  rw [hi, hj] at h1
  obtain ⟨R, hR⟩ := at_occ hio
  obtain ⟨C, hC⟩ := at_occ hjo
  have hl : l = l.take i ++ (o0 ++ R) := by rw [← hR, List.take_append_drop]
  have hij : i ≤ j := by omega
  have hd : l.drop j = (l.drop i).drop (j - i) := by rw [List.drop_drop]; congr 1; omega
  rw [hR] at hd
  rw [hC] at hd
  have h3 : 3 ≤ j - i := by
    rcases Nat.lt_or_ge (j - i) 3 with hlt | hge
    · exfalso
      have : j - i = 0 ∨ j - i = 1 ∨ j - i = 2 := by omega
      rcases this with e | e | e <;> rw [e] at hd <;> simp [o0, o1] at hd
    · exact hge
  have hd2 : (o0 ++ R).drop (j - i) = R.drop (j - i - 3) := by
    obtain ⟨m, hm⟩ : ∃ m, j - i = 3 + m := ⟨j - i - 3, by omega⟩
    rw [hm, show 3 + m - 3 = m by omega, ← List.drop_drop]; rfl
  rw [hd2] at hd
  have hRR : R = R.take (j - i - 3) ++ (o1 ++ C) := by rw [hd, List.take_append_drop]
  have hc' := hc
  rw [hl, hRR] at hc'
  simp only [List.count_append] at hc'
  have e0 : o0.count (123 : UInt8) = 1 := by decide
  have e1 : o1.count (123 : UInt8) = 1 := by decide
  refine ⟨l.take i, R.take (j - i - 3), C, NB.of_count (by omega), NB.of_count (by omega), NB.of_count (by omega), ?_⟩
  rw [← hRR]; exact hl

/-- The document's scan. -/
def scan : Nat → Bs → Bool
  | n, [] => n == 50
  | n, c :: t => if c = 123 then (if 49 < n then false else (match t with
      | a :: b :: _ => if a.toNat = n then (if b = 125 then scan (n + 1) t else false) else false
      | _ => false)) else scan n t
theorem scan_other {n : Nat} {c : UInt8} {t : Bs} (h : c ≠ 123) : scan n (c :: t) = scan n t := by
  match t with
  | [] => simp [scan, h]
  | [x] => simp [scan, h]
  | a :: b :: r => rw [scan, if_neg h]
theorem scan_late {n : Nat} {t : Bs} (h : 49 < n) : scan n (123 :: t) = false := by
  match t with
  | [] => simp [scan, h]
  | [x] => simp [scan, h]
  | a :: b :: r => rw [scan, if_pos rfl, if_pos h]
theorem scan_short {n : Nat} {t : Bs} (h : t.length ≤ 1) : scan n (123 :: t) = false := by
  match t, h with
  | [], _ => simp [scan]
  | [x], _ => simp [scan]
theorem scan_yes {n : Nat} {a b : UInt8} {r : Bs} (h : ¬ 49 < n) (ha : a.toNat = n) (hb : b = 125) : scan n (123 :: a :: b :: r) = scan (n + 1) (a :: b :: r) := by
  rw [scan, if_pos rfl, if_neg h, if_pos ha, if_pos hb]
theorem scan_no {n : Nat} {a b : UInt8} {r : Bs} (h : ¬ (a.toNat = n ∧ b = 125)) : scan n (123 :: a :: b :: r) = false := by
  rw [scan, if_pos rfl]
  by_cases h1 : 49 < n
  · rw [if_pos h1]
  · rw [if_neg h1]
    by_cases ha : a.toNat = n
    · rw [if_pos ha, if_neg (fun hb => h ⟨ha, hb⟩)]
    · rw [if_neg ha]
theorem scan_nb (n : Nat) (hn : n = 50) : ∀ l : Bs, scan n l = true ↔ NB l := by
  subst hn
  intro l
  induction l with
  | nil => simp [scan, NB]
  | cons c t ih =>
    unfold scan
    by_cases h : c = 123
    · rw [if_pos h, if_pos (by omega)]
      constructor
      · intro e; cases e
      · intro e; exact absurd h e.head
    · rw [if_neg h, ih]
      exact ⟨fun e => NB.cons h e, fun e => e.tail⟩
theorem byte_eq {a : UInt8} {n : Nat} {b : UInt8} (h : a.toNat = n) (hb : b.toNat = n) : a = b := UInt8.toNat_inj.1 (h.trans hb.symm)
theorem scan_49 : ∀ l : Bs, scan 49 l = true ↔ ∃ B C, NB B ∧ NB C ∧ l = B ++ (o1 ++ C) := by
  intro l
  induction l with
  | nil => simp [scan, o1]
  | cons c t ih =>
    unfold scan
    by_cases h : c = 123
    · rw [if_pos h, if_neg (by omega)]
      subst h
      constructor
      · intro e
        match t, e with
        | a :: b :: r, e =>
          simp only at e
          by_cases ha : a.toNat = 49
          · rw [if_pos ha] at e
            by_cases hb : b = 125
            · rw [if_pos hb] at e
              have := (scan_nb 50 rfl _).1 e
              obtain rfl := byte_eq ha (b := 49) rfl
              subst hb
              exact ⟨[], r, NB.nil, this.tail.tail, by simp [o1]⟩
            · rw [if_neg hb] at e; cases e
          · rw [if_neg ha] at e; cases e
      · rintro ⟨B, C, hB, hC, e⟩
        cases B with
        | nil =>
          simp [o1] at e
          subst e
          simp only
          rw [if_pos (by decide), if_pos trivial]
          exact (scan_nb 50 rfl _).2 (NB.cons (by decide) (NB.cons (by decide) hC))
        | cons x B =>
          simp at e
          exact absurd e.1.symm hB.head
    · rw [if_neg h, ih]
      constructor
      · rintro ⟨B, C, hB, hC, e⟩
        exact ⟨c :: B, C, NB.cons h hB, hC, by rw [e]; rfl⟩
      · rintro ⟨B, C, hB, hC, e⟩
        cases B with
        | nil => simp [o1] at e; exact absurd e.1 h
        | cons x B => simp at e; exact ⟨B, C, hB.tail, hC, e.2⟩
theorem scan_48 : ∀ l : Bs, scan 48 l = true ↔ ∃ A B C, Dec l A B C := by
  intro l
  induction l with
  | nil => simp [scan, Dec, o0]
  | cons c t ih =>
    unfold scan
    by_cases h : c = 123
    · rw [if_pos h, if_neg (by omega)]
      subst h
      constructor
      · intro e
        match t, e with
        | a :: b :: r, e =>
          simp only at e
          by_cases ha : a.toNat = 48
          · rw [if_pos ha] at e
            by_cases hb : b = 125
            · rw [if_pos hb] at e
              obtain rfl := byte_eq ha (b := 48) rfl
              subst hb
              obtain ⟨B, C, hB, hC, e2⟩ := (scan_49 _).1 e
              match B, e2, hB with
              | [], e2, _ => simp [o1] at e2
              | [x], e2, _ => simp [o1] at e2
              | x :: y :: B, e2, hB =>
                simp at e2
                exact ⟨[], B, C, NB.nil, hB.tail.tail, hC, by simp [o0, e2.2.2]⟩
            · rw [if_neg hb] at e; cases e
          · rw [if_neg ha] at e; cases e
      · rintro ⟨A, B, C, hA, hB, hC, e⟩
        cases A with
        | nil =>
          simp [o0] at e
          subst e
          simp only
          rw [if_pos (by decide), if_pos trivial]
          exact (scan_49 _).2 ⟨48 :: 125 :: B, C, NB.cons (by decide) (NB.cons (by decide) hB), hC, rfl⟩
        | cons x A =>
          simp at e
          exact absurd e.1.symm hA.head
    · rw [if_neg h, ih]
      constructor
      · rintro ⟨A, B, C, hA, hB, hC, e⟩
        exact ⟨c :: A, B, C, NB.cons h hA, hB, hC, by rw [e]; rfl⟩
      · rintro ⟨A, B, C, hA, hB, hC, e⟩
        cases A with
        | nil => simp [o0] at e; exact absurd e.1 h
        | cons x A => simp at e; exact ⟨A, B, C, hA.tail, hB, hC, e.2⟩
end Go.Proofs.Ytalojokihccboaa.Pat
