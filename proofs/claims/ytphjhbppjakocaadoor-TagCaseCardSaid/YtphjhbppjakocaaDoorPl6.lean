/- Insertion, as the document does it, and sorting, as the program does it, tell the same row; conditions: at keys, that no name stands twice. -/
import Derived.Test.YtphjhbppjakocaaDoorPl5
namespace Go.Proofs.YtphjhbppjakocaaDoor.Pl
open Go.RowKit Go.Proofs.YtphjhbppjakocaaDoorW.PrintWords Go.Proofs.YtphjhbppjakocaaDoor.PTag
set_option linter.unusedVariables false
def ins {α : Type} (lt : α → α → Bool) (x : α) : List α → List α
  | [] => [x]
  | y :: ys => if lt x y = true then x :: y :: ys else y :: ins lt x ys
def isrt {α : Type} (lt : α → α → Bool) (l : List α) : List α := l.foldl (fun a x => ins lt x a) []
theorem isrt_snoc {α : Type} (lt : α → α → Bool) (l : List α) (x : α) : isrt lt (l ++ [x]) = ins lt x (isrt lt l) := by
  unfold isrt; rw [List.foldl_append]; rfl
theorem ins_perm {α : Type} (lt : α → α → Bool) (x : α) : ∀ l, (ins lt x l).Perm (x :: l)
  | [] => List.Perm.refl _
  | y :: ys => by
    unfold ins
    by_cases h : lt x y = true
    · rw [if_pos h]
    · rw [if_neg h]; exact ((ins_perm lt x ys).cons y).trans (List.Perm.swap x y ys)
theorem foldl_perm {α : Type} (lt : α → α → Bool) : ∀ (l a : List α), (l.foldl (fun a x => ins lt x a) a).Perm (a ++ l)
  | [], a => by simp
  | x :: l, a => by
    refine (foldl_perm lt l (ins lt x a)).trans ?_
    refine ((ins_perm lt x a).append_right l).trans ?_
    exact (List.perm_middle).symm
theorem isrt_perm {α : Type} (lt : α → α → Bool) (l : List α) : (isrt lt l).Perm l := foldl_perm lt l []
theorem isrt_len {α : Type} (lt : α → α → Bool) (l : List α) : (isrt lt l).length = l.length := (isrt_perm lt l).length_eq
theorem isrt_mem {α : Type} (lt : α → α → Bool) (l : List α) (x : α) : x ∈ isrt lt l ↔ x ∈ l := (isrt_perm lt l).mem_iff
abbrev Asc {α : Type} (lt : α → α → Bool) (l : List α) : Prop := l.Pairwise fun a b => lt b a = false
theorem asymm_ {α : Type} {lt : α → α → Bool} (h : Go.Sort.SWO lt) {x y : α} (hxy : lt x y = true) : lt y x = false := by
  cases hyx : lt y x with
  | false => rfl
  | true => have := h.trans _ _ _ hxy hyx; rw [h.irrefl] at this; cases this
theorem ins_asc {α : Type} {lt : α → α → Bool} (h : Go.Sort.SWO lt) (x : α) : ∀ l, Asc lt l → Asc lt (ins lt x l)
  | [], _ => by simp [ins]
  | y :: ys, hl => by
    unfold ins
    obtain ⟨h1, h2⟩ := List.pairwise_cons.1 hl
    by_cases hxy : lt x y = true
    · rw [if_pos hxy]
      refine List.pairwise_cons.2 ⟨fun z hz => ?_, hl⟩
      rcases List.mem_cons.1 hz with rfl | hz
      · exact asymm_ h hxy
      · exact h.ntrans _ _ _ (h1 z hz) (asymm_ h hxy)
    · rw [if_neg hxy]
      refine List.pairwise_cons.2 ⟨fun z hz => ?_, ins_asc h x ys h2⟩
      rcases List.mem_cons.1 ((ins_perm lt x ys).mem_iff.1 hz) with rfl | hz
      · simpa using hxy
      · exact h1 z hz
theorem isrt_asc {α : Type} {lt : α → α → Bool} (h : Go.Sort.SWO lt) (l : List α) : Asc lt (isrt lt l) := by
  unfold isrt
  suffices ∀ (l a : List α), Asc lt a → Asc lt (l.foldl (fun a x => ins lt x a) a) from this l [] List.Pairwise.nil
  intro l
  induction l with
  | nil => exact fun a ha => ha
  | cons x l ih => exact fun a ha => ih _ (ins_asc h x a ha)
/-! Texts. -/
theorem bless_ : ∀ (x y : Bs), Op.bytesLess x y = decide (x < y)
  | [], [] => by simp [Op.bytesLess]
  | _ :: _, [] => by simp [Op.bytesLess]
  | [], _ :: _ => by simp [Op.bytesLess]
  | a :: x, b :: y => by
    simp only [Op.bytesLess, bless_ x y, List.cons_lt_cons_iff]
    by_cases h1 : a < b
    · simp [h1]
    · by_cases h2 : a = b
      · subst h2; simp
      · simp [h1, h2]
def ltT (x y : ByteArray) : Bool := Op.bytesLess x.toList y.toList
theorem ltT_eq (x y : ByteArray) : ltT x y = decide (L x < L y) := by unfold ltT; rw [bless_, toList_L, toList_L]
theorem swoT : Go.Sort.SWO ltT where
  irrefl x := by rw [ltT_eq]; simp
  trans x y z h1 h2 := by
    rw [ltT_eq] at *
    simp only [decide_eq_true_eq] at *
    exact List.lt_trans h1 h2
  ntrans x y z h1 h2 := by
    rw [ltT_eq] at *
    simp only [decide_eq_false_iff_not] at *
    exact List.not_lt.2 (List.le_trans (List.not_lt.1 h2) (List.not_lt.1 h1))
theorem isrt_texts (vs : List ByteArray) : isrt ltT vs = sortTexts vs := by
  refine List.Perm.eq_of_pairwise (le := fun a b => ltT b a = false) ?_ (isrt_asc swoT vs) ?_ ?_
  · intro a b _ _ h1 h2
    simp only [ltT_eq, decide_eq_false_iff_not] at h1 h2
    exact L_inj (List.le_antisymm (List.not_lt.1 h1) (List.not_lt.1 h2))
  · unfold sortTexts
    rw [List.pairwise_map]
    have := List.pairwise_mergeSort (le := fun (x y : Bs) => decide (x ≤ y)) (fun a b c h1 h2 => by
      simp only [decide_eq_true_eq] at *; exact List.le_trans h1 h2) (fun a b => by
      simp only [Bool.or_eq_true, decide_eq_true_eq]; exact List.le_total a b) (vs.map (·.data.toList))
    refine this.imp (fun {a b} h => ?_)
    rw [ltT_eq]
    simp only [decide_eq_true_eq] at h
    simp only [decide_eq_false_iff_not]
    exact List.not_lt.2 h
  · refine (isrt_perm ltT vs).trans ?_
    unfold sortTexts
    have := ((List.mergeSort_perm (vs.map (·.data.toList)) fun x y => decide (x ≤ y)).map fun l => (⟨l.toArray⟩ : ByteArray)).symm
    rw [List.map_map] at this
    have e : vs.map ((fun l : List UInt8 => (⟨l.toArray⟩ : ByteArray)) ∘ fun x : ByteArray => x.data.toList) = vs := by
      refine (List.map_congr_left (fun x _ => ?_)).trans (List.map_id vs)
      exact SL x
    rw [e] at this
    exact this
/-! Keys. -/
def ltK (x y : Ky) : Bool := Op.bytesLess x.f0.toList y.f0.toList
theorem ltK_eq (x y : Ky) : ltK x y = ltOf keyCmp x y := by unfold ltK; rw [bless_, keyLt, toList_L, toList_L]
theorem ltK_fun : ltK = ltOf keyCmp := by funext x y; exact ltK_eq x y
/-- No name twice. -/
def Nm1 (ks : List Ky) : Prop := ks.Pairwise fun a b => a.f0 ≠ b.f0
theorem nm1_eq {ks : List Ky} (h : Nm1 ks) {a b : Ky} (ha : a ∈ ks) (hb : b ∈ ks) (e : a.f0 = b.f0) : a = b := by
  induction ks with
  | nil => cases ha
  | cons k ks ih =>
    obtain ⟨h1, h2⟩ := List.pairwise_cons.1 h
    rcases List.mem_cons.1 ha with ea | ha2 <;> rcases List.mem_cons.1 hb with eb | hb2
    · rw [ea, eb]
    · rw [ea] at e; exact absurd e (h1 b hb2)
    · rw [eb] at e; exact absurd e.symm (h1 a ha2)
    · exact ih h2 ha2 hb2
theorem sortKeys_perm (ks : List Ky) : (sortKeys ks).Perm ks := by
  have h := (Go.Sort.pdq_sorts (ltOf keyCmp) keySWO ks.toArray 0 ks.length (Lib.bitLen ks.length) true true (Nat.zero_le _) (by simp) (Or.inl rfl)).1
  have h1 := h.1
  have h2 := h.2.2
  unfold sortKeys
  rw [Array.extract_eq_self_of_le (by simp [h1]), Array.extract_eq_self_of_le (by simp)] at h2
  simpa using h2
theorem sortKeys_asc (ks : List Ky) : Asc (ltOf keyCmp) (sortKeys ks) := by
  have hh := Go.Sort.pdq_sorts (ltOf keyCmp) keySWO ks.toArray 0 ks.length (Lib.bitLen ks.length) true true (Nat.zero_le _) (by simp) (Or.inl rfl)
  have h := hh.2
  have hs := hh.1.1
  unfold sortKeys
  refine List.pairwise_iff_getElem.2 (fun i j hi hj hij => ?_)
  have := h i j (Nat.zero_le _) hij (by simpa [hs] using hj)
  have hi' : i < (Go.Sort.pdq (ltOf keyCmp) ks.toArray 0 ks.length (Lib.bitLen ks.length) true true).size := by simpa using hi
  have hj' : j < (Go.Sort.pdq (ltOf keyCmp) ks.toArray 0 ks.length (Lib.bitLen ks.length) true true).size := by simpa using hj
  rw [getElem!_pos (Go.Sort.pdq (ltOf keyCmp) ks.toArray 0 ks.length (Lib.bitLen ks.length) true true) i hi', getElem!_pos (Go.Sort.pdq (ltOf keyCmp) ks.toArray 0 ks.length (Lib.bitLen ks.length) true true) j hj'] at this
  simpa using this
theorem isrt_keys (ks : List Ky) (hk : Nm1 ks) : isrt ltK ks = sortKeys ks := by
  rw [ltK_fun]
  refine List.Perm.eq_of_pairwise (le := fun a b => ltOf keyCmp b a = false) ?_ (isrt_asc keySWO ks) (sortKeys_asc ks) ((isrt_perm _ ks).trans (sortKeys_perm ks).symm)
  intro a b ha hb h1 h2
  rw [isrt_mem] at ha
  have hb := (sortKeys_perm ks).mem_iff.1 hb
  simp only [keyLt, decide_eq_false_iff_not] at h1 h2
  exact nm1_eq hk ha hb (L_inj (List.le_antisymm (List.not_lt.1 h1) (List.not_lt.1 h2)))
end Go.Proofs.YtphjhbppjakocaaDoor.Pl
