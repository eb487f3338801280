/- What both Checks tell of a tag, as one plain function: the program's Check; conditions: texts of at most 1048576 bytes, rows of at most 1048576 places. -/
import Derived.Test.YtphjhbppjakocaaGreatDoorChk2
import Derived.Test.YtphjhbppjakocaaGreatDoorPU13
namespace Go.Proofs.YtphjhbppjakocaaGreatDoor.Pl
open Go.RowKit Go.Proofs.YtphjhbppjakocaaGreatDoorW.PrintWords Go.Proofs.YtphjhbppjakocaaGreatDoor.PTag
set_option linter.unusedVariables false
abbrev Ke := S39
def rise (pr : Option ByteArray) (v : ByteArray) : Int := match pr with
  | none => 0
  | some p => if p.toList = v.toList then 6 else if Op.bytesLess v.toList p.toList = true then 70 else 0
def vcP : Option ByteArray → List ByteArray → Int
  | _, [] => 0
  | pr, v :: vs => if vart (L v) = true then (if low v = v then (if rise pr v = 0 then vcP (some v) vs else rise pr v) else 70) else 70
def kcP : Option Ke → List Ke → Int
  | _, [] => 0
  | pr, x :: ks => if sgns (L x.f0) 2 2 = true then (if low x.f0 = x.f0 then (if valP x.f1 = true then (if rise (pr.map (·.f0)) x.f0 = 0 then kcP (some x) ks else rise (pr.map (·.f0)) x.f0) else 70) else 70) else 70
def restK (K : List Ke) : Int := if K.length > 64 then 5 else kcP none K
def contP (V : List ByteArray) (K : List Ke) : Int := if V.length > 64 then 5 else if vcP none V = 0 then restK K else vcP none V
def langOk (l : ByteArray) : Bool := decide (L l = []) || (lets (L l) 2 3 && (decide (low l = l) && decide (L l ≠ [117, 110, 100])))
def scrOk (s : ByteArray) : Bool := decide (L s = []) || (lets (L s) 4 4 && decide (titl s = s))
def regOk (r : ByteArray) : Bool := decide (L r = []) || (regn (L r) && decide (upp r = r))
def checkP (l s r : ByteArray) (V : List ByteArray) (K : List Ke) : Int := if langOk l = true then (if scrOk s = true then (if regOk r = true then contP V K else 70) else 70) else 70
def B : Nat := 1048576
structure Sz (l s r : ByteArray) (V : List ByteArray) (K : List Ke) : Prop where
  l : l.size ≤ 1048576
  s : s.size ≤ 1048576
  r : r.size ≤ 1048576
  nV : V.length ≤ 1048576
  nK : K.length ≤ 1048576
  vV : ∀ v ∈ V, v.size ≤ 1048576
  vK : ∀ x ∈ K, x.f0.size ≤ 1048576 ∧ x.f1.size ≤ 1048576
def At {α : Type} (V : List α) (i : Nat) (pr : Option α) (ys : List α) : Prop := V.drop i = ys ∧ (match pr with
  | none => i = 0
  | some p => ∃ j, i = j + 1 ∧ V.drop j = p :: ys)
theorem drop_cons {α : Type} {V : List α} {i : Nat} {y : α} {ys : List α} (h : V.drop i = y :: ys) : i < V.length ∧ V[i]? = some y ∧ V.drop (i + 1) = ys := by
  have hi : i < V.length := Classical.byContradiction fun hc => by rw [List.drop_eq_nil_of_le (by omega)] at h; cases h
  have h2 := List.drop_eq_getElem_cons hi
  rw [h] at h2
  obtain ⟨e1, e2⟩ := List.cons.inj h2
  exact ⟨hi, by rw [List.getElem?_eq_getElem hi, ← e1], e2.symm⟩
theorem At.next {α : Type} {V : List α} {i : Nat} {pr : Option α} {y : α} {ys : List α} (h : At V i pr (y :: ys)) : At V (i + 1) (some y) ys := ⟨(drop_cons h.1).2.2, i, rfl, h.1⟩
theorem At.start {α : Type} (V : List α) : At V 0 none V := ⟨rfl, rfl⟩
theorem rdOf_c {V : List ByteArray} {i : Nat} {y : ByteArray} (h : V[i]? = some y) : rdOf ByteArray.empty V (i : Int) = y := by simp [rdOf, h]
theorem rdK_c {V : List Ke} {i : Nat} {y : Ke} (h : V[i]? = some y) : rd_T39 V (i : Int) = y := by simp [rd_T39, h]
theorem w64_pred (j : Nat) (h : j ≤ 1048576) : wrap64 (((j + 1 : Nat) : Int) - 1) = (j : Int) := by rw [w64 (by omega)]; omega
theorem rising_f (p v : ByteArray) : tag_rising.f p v = some (rise (some p) v) := by
  unfold tag_rising.f
  show _ = some (if p.toList = v.toList then 6 else if Op.bytesLess v.toList p.toList = true then 70 else 0)
  by_cases h1 : p.toList = v.toList
  · rw [if_pos h1, if_pos h1]
  · rw [if_neg h1, if_neg h1]
    split <;> rfl
theorem ne_low (v : ByteArray) : (v.toList != (low v).toList) = !decide (low v = v) := by
  rw [toList_L, toList_L]
  by_cases h : low v = v
  · rw [decide_eq_true h, h]; simp
  · rw [decide_eq_false h]
    simp only [Bool.not_false, bne_iff_ne, ne_eq]
    exact fun e => h (L_inj e).symm
section
variable {l s r : ByteArray} {V : List ByteArray} {K : List Ke} (z : Sz l s r V K)
include z
theorem tj4 {i : Nat} {pr : Option ByteArray} {v : ByteArray} {ys : List ByteArray} (h : At V i pr (v :: ys)) {X : Int} (hX : Ev (fun k => tag_Check.l0 k V (V.length : Int) ((i + 1 : Nat) : Int) l s r V K) X) :
    Ev (fun k => tag_Check.j4 k (i : Int) v V (V.length : Int) (i : Int) false l s r V K) (if rise pr v = 0 then X else rise pr v) := by
  have hn := z.nV
  have hi := (drop_cons h.1).1
  have hw : wrap64 ((i : Int) + 1) = ((i + 1 : Nat) : Int) := w64 (by omega)
  cases pr with
  | none =>
    have h0 : i = 0 := h.2
    subst h0
    show Ev _ X
    refine Ev.step (fun k => ?_) hX
    simp only [tag_Check.j4]
    rw [if_neg (by simp), if_neg (by omega), hw]
  | some p =>
    obtain ⟨j, rfl, hj⟩ := h.2
    have hp := rdOf_c (drop_cons hj).2.1
    have hjl := (drop_cons hj).1
    refine Ev.step (f := fun k => if rise (some p) v = 0 then tag_Check.l0 k V (V.length : Int) ((j + 1 + 1 : Nat) : Int) l s r V K else some (rise (some p) v)) (fun k => ?_) ?_
    · simp only [tag_Check.j4]
      rw [if_neg (by simp), if_pos (by omega), w64_pred j (by omega), if_pos (by omega), if_pos (by omega), hp, rising_f, hw]
      rfl
    · split
      · exact hX
      · exact Ev.now _
theorem tl0 (hK : Ev (fun k => if (K.length : Int) > 64 then some 5 else tag_Check.l1 k K (K.length : Int) 0 l s r V K) (restK K)) : ∀ (ys : List ByteArray) (pr : Option ByteArray) (i : Nat), At V i pr ys →
    Ev (fun k => tag_Check.l0 k V (V.length : Int) (i : Int) l s r V K) (if vcP pr ys = 0 then restK K else vcP pr ys)
  | [], pr, i, h => by
    have hi : V.length ≤ i := List.drop_eq_nil_iff.1 h.1
    show Ev _ (restK K)
    refine Ev.step (fun k => ?_) hK
    simp only [tag_Check.l0]
    rw [if_neg (by omega)]
  | v :: ys, pr, i, h => by
    have ih := tl0 hK ys (some v) (i + 1) h.next
    obtain ⟨hi, hv, _⟩ := drop_cons h.1
    have hz := z.vV v (List.mem_of_getElem? hv)
    have h4 := tj4 z h ih
    refine Ev.step (f := fun k => (tag_variant.f k v).bind fun t => if t = true then (tag_lower.f v).bind fun u => tag_Check.j4 k (i : Int) v V (V.length : Int) (i : Int) (v.toList != u.toList) l s r V K else tag_Check.j4 k (i : Int) v V (V.length : Int) (i : Int) true l s r V K) (fun k => ?_) (Ev.bind (variant_f v (by omega)) ?_)
    · simp only [tag_Check.l0]
      rw [if_pos (by omega), if_pos (by omega), if_pos (by omega), rdOf_c hv]
    · have bad : Ev (fun k => tag_Check.j4 k (i : Int) v V (V.length : Int) (i : Int) true l s r V K) 70 := Ev.step (f := fun _ => some 70) (fun k => by simp [tag_Check.j4]) (Ev.now _)
      unfold vcP
      cases ha : vart (L v) with
      | false => simpa using bad
      | true =>
        simp only [if_true]
        rw [lower_f v (by omega)]
        simp only [Option.bind_some, ne_low]
        by_cases hl : low v = v
        · rw [decide_eq_true hl, if_pos hl]
          show Ev (fun k => tag_Check.j4 k (i : Int) v V (V.length : Int) (i : Int) false l s r V K) _
          have e : (if (if rise pr v = 0 then vcP (some v) ys else rise pr v) = 0 then restK K else (if rise pr v = 0 then vcP (some v) ys else rise pr v)) = if rise pr v = 0 then (if vcP (some v) ys = 0 then restK K else vcP (some v) ys) else rise pr v := by
            by_cases hr : rise pr v = 0
            · simp only [if_pos hr]
            · simp only [if_neg hr]
          rw [e]; exact h4
        · rw [decide_eq_false hl, if_neg hl]
          simpa using bad
theorem tj6 {i : Nat} {pr : Option Ke} {v : Ke} {ys : List Ke} (h : At K i pr (v :: ys)) {X : Int} (hX : Ev (fun k => tag_Check.l1 k K (K.length : Int) ((i + 1 : Nat) : Int) l s r V K) X) :
    Ev (fun k => tag_Check.j6 k (i : Int) K (K.length : Int) (i : Int) false l s r V K v.f0 v.f1) (if rise (pr.map (·.f0)) v.f0 = 0 then X else rise (pr.map (·.f0)) v.f0) := by
  have hn := z.nK
  have hi := (drop_cons h.1).1
  have hw : wrap64 ((i : Int) + 1) = ((i + 1 : Nat) : Int) := w64 (by omega)
  cases pr with
  | none =>
    have h0 : i = 0 := h.2
    subst h0
    show Ev _ X
    refine Ev.step (fun k => ?_) hX
    simp only [tag_Check.j6]
    rw [if_neg (by simp), if_neg (by omega), hw]
  | some p =>
    obtain ⟨j, rfl, hj⟩ := h.2
    have hp := rdK_c (drop_cons hj).2.1
    have hjl := (drop_cons hj).1
    refine Ev.step (f := fun k => if rise (some p.f0) v.f0 = 0 then tag_Check.l1 k K (K.length : Int) ((j + 1 + 1 : Nat) : Int) l s r V K else some (rise (some p.f0) v.f0)) (fun k => ?_) ?_
    · simp only [tag_Check.j6]
      rw [if_neg (by simp), if_pos (by omega), w64_pred j (by omega), if_pos (by omega), if_pos (by omega), hp, rising_f, hw]
      rfl
    · show Ev _ (if rise (some p.f0) v.f0 = 0 then X else rise (some p.f0) v.f0)
      split
      · exact hX
      · exact Ev.now _
theorem tl1 : ∀ (ys : List Ke) (pr : Option Ke) (i : Nat), At K i pr ys → Ev (fun k => tag_Check.l1 k K (K.length : Int) (i : Int) l s r V K) (kcP pr ys)
  | [], pr, i, h => by
    have hi : K.length ≤ i := List.drop_eq_nil_iff.1 h.1
    refine Ev.step (f := fun _ => some 0) (fun k => ?_) (Ev.now _)
    simp only [tag_Check.l1]
    rw [if_neg (by omega)]
  | v :: ys, pr, i, h => by
    have ih := tl1 ys (some v) (i + 1) h.next
    obtain ⟨hi, hv, _⟩ := drop_cons h.1
    have hz := z.vK v (List.mem_of_getElem? hv)
    have h6 := tj6 z h ih
    have bad : Ev (fun k => tag_Check.j6 k (i : Int) K (K.length : Int) (i : Int) true l s r V K v.f0 v.f1) 70 := Ev.step (f := fun _ => some 70) (fun k => by simp [tag_Check.j6]) (Ev.now _)
    refine Ev.step (f := fun k => (tag_signs.f k v.f0 2 2).bind fun t => if t = true then (tag_lower.f v.f0).bind fun u => if v.f0.toList = u.toList then (tag_valued.f k v.f1).bind fun q => tag_Check.j6 k (i : Int) K (K.length : Int) (i : Int) (!q) l s r V K v.f0 v.f1 else tag_Check.j6 k (i : Int) K (K.length : Int) (i : Int) true l s r V K v.f0 v.f1 else tag_Check.j6 k (i : Int) K (K.length : Int) (i : Int) true l s r V K v.f0 v.f1) (fun k => ?_) (Ev.bind (signs_f v.f0 2 2 (by omega)) ?_)
    · simp only [tag_Check.l1]
      rw [if_pos (by omega), if_pos (by omega), if_pos (by omega), rdK_c hv]
    · unfold kcP
      cases ha : sgns (L v.f0) 2 2 with
      | false => simpa using bad
      | true =>
        simp only [if_true]
        rw [lower_f v.f0 (by omega)]
        simp only [Option.bind_some]
        by_cases hl : low v.f0 = v.f0
        · rw [if_pos hl]
          simp only [hl, if_true]
          refine Ev.bind (valued_f v.f1 hz.2) ?_
          cases hq : valP v.f1 with
          | true => simpa using h6
          | false => simpa using bad
        · rw [if_neg hl]
          have : ¬ v.f0.toList = (low v.f0).toList := fun e => hl (L_inj (by rw [toList_L, toList_L] at e; exact e)).symm
          simp only [if_neg this]
          exact bad
theorem tk : Ev (fun k => if (K.length : Int) > 64 then some 5 else tag_Check.l1 k K (K.length : Int) 0 l s r V K) (restK K) := by
  unfold restK
  by_cases h : K.length > 64
  · rw [if_pos h]; simp only [if_pos (show (K.length : Int) > 64 by omega)]; exact Ev.now _
  · rw [if_neg h]; simp only [if_neg (show ¬ (K.length : Int) > 64 by omega)]; exact tl1 z K none 0 (At.start K)
theorem tj2 : Ev (fun k => tag_Check.j2 k false l s r V K) (contP V K) := by
  unfold contP
  refine Ev.step (f := fun k => if (V.length : Int) > 64 then some 5 else tag_Check.l0 k V (V.length : Int) 0 l s r V K) (fun k => by simp only [tag_Check.j2]; rw [if_neg (by simp)]) ?_
  by_cases h : V.length > 64
  · rw [if_pos h]; simp only [if_pos (show (V.length : Int) > 64 by omega)]; exact Ev.now _
  · rw [if_neg h]; simp only [if_neg (show ¬ (V.length : Int) > 64 by omega)]; exact tl0 z (tk z) V none 0 (At.start V)
theorem check_f : Ev (fun k => tag_Check.f k l s r V K) (checkP l s r V K) := by
  have b0 : Ev (fun k => tag_Check.j0 k true l s r V K) 70 := Ev.step (f := fun _ => some 70) (fun k => by simp [tag_Check.j0]) (Ev.now _)
  have b1 : Ev (fun k => tag_Check.j1 k true l s r V K) 70 := Ev.step (f := fun _ => some 70) (fun k => by simp [tag_Check.j1]) (Ev.now _)
  have b2 : Ev (fun k => tag_Check.j2 k true l s r V K) 70 := Ev.step (f := fun _ => some 70) (fun k => by simp [tag_Check.j2]) (Ev.now _)
  have c1 : Ev (fun k => tag_Check.j1 k false l s r V K) (if regOk r = true then contP V K else 70) := by
    refine Ev.step (fun k => by simp only [tag_Check.j1]; rw [if_neg (by simp)]) ?_
    unfold regOk
    rw [toList_L]
    by_cases h0 : L r = []
    · rw [decide_eq_true h0]; simp only [if_pos h0]; exact tj2 z
    · rw [decide_eq_false h0, Bool.false_or]; simp only [if_neg h0]
      refine Ev.bind (region_f r (by have := z.r; omega)) ?_
      cases hr : regn (L r) with
      | false => simpa using b2
      | true =>
        simp only [if_true, Bool.true_and]
        rw [upper_f r (by have := z.r; omega)]
        simp only [Option.bind_some, toList_L]
        by_cases hu : upp r = r
        · rw [hu]; simpa using tj2 z
        · have : (L r != L (upp r)) = true := by simp only [bne_iff_ne, ne_eq]; exact fun e => hu (L_inj e).symm
          rw [this]; simpa [hu] using b2
  have c0 : Ev (fun k => tag_Check.j0 k false l s r V K) (if scrOk s = true then (if regOk r = true then contP V K else 70) else 70) := by
    refine Ev.step (fun k => by simp only [tag_Check.j0]; rw [if_neg (by simp)]) ?_
    unfold scrOk
    rw [toList_L]
    by_cases h0 : L s = []
    · rw [decide_eq_true h0]; simp only [if_pos h0]; exact c1
    · rw [decide_eq_false h0, Bool.false_or]; simp only [if_neg h0]
      refine Ev.bind (letters_f s 4 4 (by have := z.s; omega)) ?_
      cases hr : lets (L s) 4 4 with
      | false => simpa using b1
      | true =>
        have hlen : 1 ≤ s.size := by unfold lets at hr; simp only [Bool.and_eq_true, decide_eq_true_eq] at hr; rw [L_len] at hr; omega
        simp only [if_true, Bool.true_and]
        rw [title_f s (by have := z.s; omega) hlen]
        simp only [Option.bind_some, toList_L]
        by_cases hu : titl s = s
        · rw [hu]; simpa using c1
        · have : (L s != L (titl s)) = true := by simp only [bne_iff_ne, ne_eq]; exact fun e => hu (L_inj e).symm
          rw [this]; simpa [hu] using b1
  unfold tag_Check.f checkP langOk
  rw [toList_L]
  by_cases h0 : L l = []
  · rw [decide_eq_true h0]; simp only [if_pos h0]; exact c0
  · rw [decide_eq_false h0, Bool.false_or]; simp only [if_neg h0]
    refine Ev.bind (letters_f l 2 3 (by have := z.l; omega)) ?_
    cases hr : lets (L l) 2 3 with
    | false => simpa using b0
    | true =>
      simp only [if_true, Bool.true_and]
      rw [lower_f l (by have := z.l; omega)]
      simp only [Option.bind_some, toList_L]
      by_cases hu : low l = l
      · rw [hu]
        simp only [if_true]
        by_cases h3 : L l = [117, 110, 100]
        · have : (L l == [117, 110, 100]) = true := by rw [h3]; rfl
          rw [this]; simpa [h3] using b0
        · have : (L l == [117, 110, 100]) = false := by simpa using h3
          rw [this]; simpa [h3] using c0
      · have : ¬ L l = L (low l) := fun e => hu (L_inj e).symm
        simp only [if_neg this]
        simpa [hu] using b0
end
end Go.Proofs.YtphjhbppjakocaaGreatDoor.Pl
