/- Whether a tag lies within another one: the program's Within and the document's tell the same, and the law TagWithin; conditions: texts of at most 1048576 bytes, rows of at most 1048576 places. -/
import Derived.Test.YtphjhbppjakocaaGreatDoorChk4
import Derived.Test.YtphjhbppjakocaaGreatDoorPU26
namespace Go.Proofs.YtphjhbppjakocaaGreatDoor.Pl
open Go.RowKit Go.Proofs.YtphjhbppjakocaaGreatDoorW.PrintWords Go.Proofs.YtphjhbppjakocaaGreatDoor.PTag
set_option linter.unusedVariables false
abbrev BI := Bool × Int
def fieldB (a b : ByteArray) : Bool := decide (L a = []) || decide (a = b)
def fieldsB (l s r l' s' r' : ByteArray) : Bool := fieldB l' l && (fieldB s' s && fieldB r' r)
theorem ne_dec (a b : ByteArray) : (a.toList != b.toList) = !decide (a = b) := by
  rw [toList_L, toList_L]
  by_cases h : a = b
  · rw [decide_eq_true h, h]; simp
  · rw [decide_eq_false h]
    simp only [Bool.not_false, bne_iff_ne, ne_eq]
    exact fun e => h (L_inj e)
theorem nil_iff (a : ByteArray) : (a.toList = ([] : List UInt8)) ↔ L a = [] := by rw [toList_L]
theorem eq_iff (a b : ByteArray) : (a.toList = b.toList) ↔ a = b := ⟨fun h => L_inj (by rw [← toList_L, ← toList_L, h]), fun h => by rw [h]⟩
/-- The three texts, as both functions compare them. -/
theorem fields_f (j : Nat → Bool → Option BI) (R : BI) (h0 : Ev (fun k => j k false) R) (h1 : Ev (fun k => j k true) (false, 0)) (l s r l' s' r' : ByteArray) :
    Ev (fun k => if l'.toList = ([] : List UInt8) then (if s'.toList = ([] : List UInt8) then (if r'.toList = ([] : List UInt8) then j k false else j k (r'.toList != r.toList)) else (if s'.toList = s.toList then (if r'.toList = ([] : List UInt8) then j k false else j k (r'.toList != r.toList)) else j k true))
      else (if l'.toList = l.toList then (if s'.toList = ([] : List UInt8) then (if r'.toList = ([] : List UInt8) then j k false else j k (r'.toList != r.toList)) else (if s'.toList = s.toList then (if r'.toList = ([] : List UInt8) then j k false else j k (r'.toList != r.toList)) else j k true)) else j k true)) (if fieldsB l s r l' s' r' = true then R else (false, 0)) := by
  have c3 : Ev (fun k => if r'.toList = ([] : List UInt8) then j k false else j k (r'.toList != r.toList)) (if fieldB r' r = true then R else (false, 0)) := by
    unfold fieldB
    simp only [nil_iff, ne_dec]
    by_cases a : L r' = []
    · rw [decide_eq_true a]; simp only [if_pos a]; exact h0
    · rw [decide_eq_false a, Bool.false_or]; simp only [if_neg a]
      by_cases b : r' = r
      · rw [decide_eq_true b]; exact h0
      · rw [decide_eq_false b]; exact h1
  have c2 : Ev (fun k => if s'.toList = ([] : List UInt8) then (if r'.toList = ([] : List UInt8) then j k false else j k (r'.toList != r.toList)) else (if s'.toList = s.toList then (if r'.toList = ([] : List UInt8) then j k false else j k (r'.toList != r.toList)) else j k true)) (if (fieldB s' s && fieldB r' r) = true then R else (false, 0)) := by
    have e : fieldB s' s = (decide (L s' = []) || decide (s' = s)) := rfl
    rw [e]
    by_cases a : L s' = []
    · have a' := (nil_iff s').2 a
      rw [decide_eq_true a, Bool.true_or, Bool.true_and]; simp only [if_pos a']; exact c3
    · have a' : ¬ s'.toList = [] := fun h => a ((nil_iff s').1 h)
      rw [decide_eq_false a, Bool.false_or]; simp only [if_neg a']
      by_cases b : s' = s
      · have b' := (eq_iff s' s).2 b
        rw [decide_eq_true b, Bool.true_and]; simp only [if_pos b']; exact c3
      · have b' : ¬ s'.toList = s.toList := fun h => b ((eq_iff s' s).1 h)
        rw [decide_eq_false b, Bool.false_and]; simp only [if_neg b']; exact h1
  unfold fieldsB
  have e : fieldB l' l = (decide (L l' = []) || decide (l' = l)) := rfl
  rw [e]
  by_cases a : L l' = []
  · have a' := (nil_iff l').2 a
    rw [decide_eq_true a, Bool.true_or, Bool.true_and]; simp only [if_pos a']; exact c2
  · have a' : ¬ l'.toList = [] := fun h => a ((nil_iff l').1 h)
    rw [decide_eq_false a, Bool.false_or]; simp only [if_neg a']
    by_cases b : l' = l
    · have b' := (eq_iff l' l).2 b
      rw [decide_eq_true b, Bool.true_and]; simp only [if_pos b']; exact c2
    · have b' : ¬ l'.toList = l.toList := fun h => b ((eq_iff l' l).1 h)
      rw [decide_eq_false b, Bool.false_and]; simp only [if_neg b']; exact h1
def sameK (x y : Ke) : Bool := (x.f0.toList == y.f0.toList) && (x.f1.toList == y.f1.toList)
def subV (V W : List ByteArray) : Bool := W.all fun v => V.any fun x => x.toList == v.toList
def subK (K M : List Ke) : Bool := M.all fun v => K.any fun x => sameK x v
/-- What Within tells where both tags may be. -/
def inP (l s r : ByteArray) (V : List ByteArray) (K : List Ke) (l' s' r' : ByteArray) (V' : List ByteArray) (K' : List Ke) : BI :=
  if fieldsB l s r l' s' r' = true then (if subV V V' = true then (subK K K', 0) else (false, 0)) else (false, 0)
def withinP (l s r : ByteArray) (V : List ByteArray) (K : List Ke) (l' s' r' : ByteArray) (V' : List ByteArray) (K' : List Ke) : BI :=
  if checkP l s r V K = 0 then (if checkP l' s' r' V' K' = 0 then inP l s r V K l' s' r' V' K' else (false, checkP l' s' r' V' K')) else (false, checkP l s r V K)
theorem any_in (V : List ByteArray) (v : ByteArray) : Lib.containsS V v = V.any fun x => x.toList == v.toList := by
  rw [Bool.eq_iff_iff, Lib.containsS_iff, List.any_eq_true]
  constructor
  · intro h; exact ⟨v, h, by simp⟩
  · rintro ⟨x, hx, he⟩
    obtain rfl := (eq_iff x v).1 (by simpa using he)
    exact hx
section
variable {l s r : ByteArray} {V : List ByteArray} {K : List Ke} (z : Sz l s r V K) {l' s' r' : ByteArray} {V' : List ByteArray} {K' : List Ke} (z' : Sz l' s' r' V' K')
include z z'
theorem tw_l1 : ∀ (ys : List Ke) (i : Nat), K'.drop i = ys → Ev (fun k => tag_Within.l1 k K' (K'.length : Int) (i : Int) l s r V K) (subK K ys, 0)
  | [], i, h => by
    have hi : K'.length ≤ i := List.drop_eq_nil_iff.1 h
    refine Ev.step (f := fun _ => some (true, 0)) (fun k => ?_) (Ev.now _)
    simp only [tag_Within.l1]
    rw [if_neg (by omega)]
  | y :: ys, i, h => by
    obtain ⟨hi, hy, hn⟩ := drop_cons h
    have ih := tw_l1 ys (i + 1) hn
    have h1 := z'.nK
    have h2 := z.nK
    have hw : wrap64 ((i : Int) + 1) = ((i + 1 : Nat) : Int) := w64 (by omega)
    have e : api_Key_39.f K y.f0 y.f1 = some (K.any fun x => sameK x y) := by
      unfold api_Key_39.f
      rw [if_pos (by omega)]
      congr 2
      funext x
      show ((y.f0.toList == x.f0.toList) && (y.f1.toList == x.f1.toList)) = ((x.f0.toList == y.f0.toList) && (x.f1.toList == y.f1.toList))
      rw [BEq.comm (a := y.f0.toList), BEq.comm (a := y.f1.toList)]
    refine Ev.step (f := fun k => if (K.any fun x => sameK x y) = true then tag_Within.l1 k K' (K'.length : Int) ((i + 1 : Nat) : Int) l s r V K else some (false, 0)) (fun k => ?_) ?_
    · simp only [tag_Within.l1]
      rw [if_pos (by omega), if_pos (by omega), if_pos (by omega), rdK_c hy, e, hw]; rfl
    · unfold subK
      rw [List.all_cons]
      cases hb : K.any fun x => sameK x y with
      | true => exact ih
      | false => exact Ev.now _
theorem tw_l0 : ∀ (ys : List ByteArray) (i : Nat), V'.drop i = ys → Ev (fun k => tag_Within.l0 k V' (V'.length : Int) (i : Int) l s r V K l' s' r' V' K') (if subV V ys = true then (subK K K', 0) else (false, 0))
  | [], i, h => by
    have hi : V'.length ≤ i := List.drop_eq_nil_iff.1 h
    show Ev _ (subK K K', 0)
    refine Ev.step (fun k => ?_) (tw_l1 z z' K' 0 rfl)
    simp only [tag_Within.l0]
    rw [if_neg (by omega)]; rfl
  | y :: ys, i, h => by
    obtain ⟨hi, hy, hn⟩ := drop_cons h
    have ih := tw_l0 ys (i + 1) hn
    have h1 := z'.nV
    have h2 := z.nV
    have hw : wrap64 ((i : Int) + 1) = ((i + 1 : Nat) : Int) := w64 (by omega)
    have e : slices_Contains_string_string.f V y = some (V.any fun x => x.toList == y.toList) := by
      unfold slices_Contains_string_string.f
      rw [if_pos (by omega), any_in]
    refine Ev.step (f := fun k => if (V.any fun x => x.toList == y.toList) = true then tag_Within.l0 k V' (V'.length : Int) ((i + 1 : Nat) : Int) l s r V K l' s' r' V' K' else some (false, 0)) (fun k => ?_) ?_
    · simp only [tag_Within.l0]
      rw [if_pos (by omega), if_pos (by omega), if_pos (by omega), rdOf_c hy, e, hw]; rfl
    · unfold subV
      rw [List.all_cons]
      cases hb : V.any fun x => x.toList == y.toList with
      | true => exact ih
      | false => exact Ev.now _
theorem within_f : Ev (fun k => tag_Within.f k l s r V K l' s' r' V' K') (withinP l s r V K l' s' r' V' K') := by
  unfold tag_Within.f withinP
  refine Ev.bind (check_f z) ?_
  by_cases h1 : checkP l s r V K = 0
  · simp only [if_pos h1]
    refine Ev.bind (check_f z') ?_
    by_cases h2 : checkP l' s' r' V' K' = 0
    · simp only [if_pos h2]
      refine fields_f (fun k x => tag_Within.j0 k x l s r V K l' s' r' V' K') _ ?_ ?_ l s r l' s' r'
      · refine Ev.step (fun k => ?_) (tw_l0 z z' V' 0 rfl)
        simp only [tag_Within.j0]
        rw [if_neg (by simp)]; rfl
      · exact Ev.step (f := fun _ => some (false, 0)) (fun k => by simp [tag_Within.j0]) (Ev.now _)
    · simp only [if_neg h2]; exact Ev.now _
  · simp only [if_neg h1]; exact Ev.now _
theorem rw_l1 {i : Nat} {y : ByteArray} (hy : V'[i]? = some y) (hi : i < V'.length) {X : BI} (hX : Ev (fun k => idiomref07_Within.l0 k ((i + 1 : Nat) : Int) l s r V K l' s' r' V' K') X) : ∀ (xs : List ByteArray) (j : Nat) (b : Bool), V.drop j = xs →
    Ev (fun k => idiomref07_Within.l1 k (i : Int) b (j : Int) l s r V K l' s' r' V' K') (if (b || xs.any fun x => x.toList == y.toList) = true then X else (false, 0))
  | [], j, b, h => by
    have hj : V.length ≤ j := List.drop_eq_nil_iff.1 h
    have h1 := z'.nV
    have hw : wrap64 ((i : Int) + 1) = ((i + 1 : Nat) : Int) := w64 (by omega)
    rw [List.any_nil, Bool.or_false]
    refine Ev.step (f := fun k => if b = true then idiomref07_Within.l0 k ((i + 1 : Nat) : Int) l s r V K l' s' r' V' K' else some (false, 0)) (fun k => ?_) ?_
    · simp only [idiomref07_Within.l1]
      rw [if_neg (by omega), hw]
    · cases b with
      | true => exact hX
      | false => exact Ev.now _
  | x :: xs, j, b, h => by
    obtain ⟨hj, hx, hn⟩ := drop_cons h
    have h2 := z.nV
    have hw : wrap64 ((j : Int) + 1) = ((j + 1 : Nat) : Int) := w64 (by omega)
    have ih := rw_l1 hy hi hX xs (j + 1) (b || x.toList == y.toList) hn
    rw [List.any_cons, ← Bool.or_assoc]
    refine Ev.step (fun k => ?_) ih
    simp only [idiomref07_Within.l1]
    rw [if_pos (by omega), hw]
    cases b with
    | true => rw [if_pos rfl]; rfl
    | false => rw [if_neg (by simp), if_pos (by omega), if_pos (by omega), if_pos (by omega), rdOf_c hx, rdOf_c hy]; rfl
theorem rw_l3 {i : Nat} {y : Ke} (hy : K'[i]? = some y) (hi : i < K'.length) {X : BI} (hX : Ev (fun k => idiomref07_Within.l2 k ((i + 1 : Nat) : Int) l s r V K l' s' r' V' K') X) : ∀ (xs : List Ke) (j : Nat) (b : Bool), K.drop j = xs →
    Ev (fun k => idiomref07_Within.l3 k (i : Int) b (j : Int) l s r V K l' s' r' V' K') (if (b || xs.any fun x => sameK x y) = true then X else (false, 0))
  | [], j, b, h => by
    have hj : K.length ≤ j := List.drop_eq_nil_iff.1 h
    have h1 := z'.nK
    have hw : wrap64 ((i : Int) + 1) = ((i + 1 : Nat) : Int) := w64 (by omega)
    rw [List.any_nil, Bool.or_false]
    refine Ev.step (f := fun k => if b = true then idiomref07_Within.l2 k ((i + 1 : Nat) : Int) l s r V K l' s' r' V' K' else some (false, 0)) (fun k => ?_) ?_
    · simp only [idiomref07_Within.l3]
      rw [if_neg (by omega), hw]
    · cases b with
      | true => exact hX
      | false => exact Ev.now _
  | x :: xs, j, b, h => by
    obtain ⟨hj, hx, hn⟩ := drop_cons h
    have h2 := z.nK
    have hw : wrap64 ((j : Int) + 1) = ((j + 1 : Nat) : Int) := w64 (by omega)
    have ih := rw_l3 hy hi hX xs (j + 1) (b || sameK x y) hn
    rw [List.any_cons, ← Bool.or_assoc]
    refine Ev.step (fun k => ?_) ih
    simp only [idiomref07_Within.l3]
    rw [if_pos (by omega), hw]
    cases b with
    | true => rw [if_pos rfl]; rfl
    | false => rw [if_neg (by simp), if_pos (by omega), if_pos (by omega), if_pos (by omega), rdK_c hx, rdK_c hy]; rfl
theorem rw_l2 : ∀ (ys : List Ke) (i : Nat), K'.drop i = ys → Ev (fun k => idiomref07_Within.l2 k (i : Int) l s r V K l' s' r' V' K') (subK K ys, 0)
  | [], i, h => by
    have hi : K'.length ≤ i := List.drop_eq_nil_iff.1 h
    refine Ev.step (f := fun _ => some (true, 0)) (fun k => ?_) (Ev.now _)
    simp only [idiomref07_Within.l2]
    rw [if_neg (by omega)]
  | y :: ys, i, h => by
    obtain ⟨hi, hy, hn⟩ := drop_cons h
    have ih := rw_l2 ys (i + 1) hn
    have := rw_l3 z z' hy hi ih K 0 false rfl
    have e : (if (false || K.any fun x => sameK x y) = true then (subK K ys, (0 : Int)) else (false, 0)) = (subK K (y :: ys), 0) := by
      unfold subK
      rw [List.all_cons, Bool.false_or]
      cases K.any fun x => sameK x y <;> rfl
    rw [e] at this
    refine Ev.step (fun k => ?_) this
    simp only [idiomref07_Within.l2]
    rw [if_pos (by omega)]; rfl
theorem rw_l0 : ∀ (ys : List ByteArray) (i : Nat), V'.drop i = ys → Ev (fun k => idiomref07_Within.l0 k (i : Int) l s r V K l' s' r' V' K') (if subV V ys = true then (subK K K', 0) else (false, 0))
  | [], i, h => by
    have hi : V'.length ≤ i := List.drop_eq_nil_iff.1 h
    show Ev _ (subK K K', 0)
    refine Ev.step (fun k => ?_) (rw_l2 z z' K' 0 rfl)
    simp only [idiomref07_Within.l0]
    rw [if_neg (by omega)]; rfl
  | y :: ys, i, h => by
    obtain ⟨hi, hy, hn⟩ := drop_cons h
    have ih := rw_l0 ys (i + 1) hn
    have := rw_l1 z z' hy hi ih V 0 false rfl
    have e : (if (false || V.any fun x => x.toList == y.toList) = true then (if subV V ys = true then (subK K K', (0 : Int)) else (false, 0)) else (false, 0)) = if subV V (y :: ys) = true then (subK K K', 0) else (false, 0) := by
      have e2 : subV V (y :: ys) = ((V.any fun x => x.toList == y.toList) && subV V ys) := by unfold subV; rw [List.all_cons]
      rw [Bool.false_or, e2]
      cases V.any fun x => x.toList == y.toList <;> rfl
    rw [e] at this
    refine Ev.step (fun k => ?_) this
    simp only [idiomref07_Within.l0]
    rw [if_pos (by omega)]; rfl
theorem rwithin_f : Ev (fun k => idiomref07_Within.f k l s r V K l' s' r' V' K') (withinP l s r V K l' s' r' V' K') := by
  unfold idiomref07_Within.f withinP
  refine Ev.bind (rcheck_f z) ?_
  by_cases h1 : checkP l s r V K = 0
  · simp only [if_pos h1]
    refine Ev.bind (rcheck_f z') ?_
    by_cases h2 : checkP l' s' r' V' K' = 0
    · simp only [if_pos h2]
      refine fields_f (fun k x => idiomref07_Within.j0 k x l s r V K l' s' r' V' K') _ ?_ ?_ l s r l' s' r'
      · refine Ev.step (fun k => ?_) (rw_l0 z z' V' 0 rfl)
        simp only [idiomref07_Within.j0]
        rw [if_neg (by simp)]; rfl
      · exact Ev.step (f := fun _ => some (false, 0)) (fun k => by simp [idiomref07_Within.j0]) (Ev.now _)
    · simp only [if_neg h2]; exact Ev.now _
  · simp only [if_neg h1]; exact Ev.now _
end
theorem sz0 : Sz ⟨#[]⟩ ⟨#[]⟩ ⟨#[]⟩ [] [] := ⟨by decide, by decide, by decide, by simp, by simp, (fun v h => by cases h), (fun x h => by cases h)⟩
theorem check0 : checkP ⟨#[]⟩ ⟨#[]⟩ ⟨#[]⟩ [] [] = 0 := by rfl
theorem sub_own (V : List ByteArray) : subV V V = true := List.all_eq_true.2 fun v hv => List.any_eq_true.2 ⟨v, hv, by simp⟩
theorem subK_own (K : List Ke) : subK K K = true := List.all_eq_true.2 fun v hv => List.any_eq_true.2 ⟨v, hv, by simp [sameK]⟩
theorem fields_own (l s r : ByteArray) : fieldsB l s r l s r = true := by simp [fieldsB, fieldB]
theorem fields_root (l s r : ByteArray) : fieldsB l s r ⟨#[]⟩ ⟨#[]⟩ ⟨#[]⟩ = true := by simp [fieldsB, fieldB, L]
theorem awake_f2 : Ev (fun k => idiomlaw07_awake.f k) true := Ev.of (fun k => idiomlaw07_awake.mono k) (k := 20) (by kernel_rfl)
theorem copy_f1 {l s r : ByteArray} {V : List ByteArray} {K : List Ke} (z : Sz l s r V K) : idiomref07_Copy.f l s r V K = some (l, s, r, V, K) := by
  have h1 := z.nV
  have h2 := z.nK
  unfold idiomref07_Copy.f
  simp only [Option.bind_some, List.nil_append, List.length_nil, Nat.zero_add]
  rw [if_pos (by omega), if_pos (by omega)]
theorem TagWithin {l s r : ByteArray} {V : List ByteArray} {K : List Ke} (z : Sz l s r V K) {l' s' r' : ByteArray} {V' : List ByteArray} {K' : List Ke} (z' : Sz l' s' r' V' K') : Ev (fun k => idiomlaw07_TagWithin.f k l s r V K l' s' r' V' K') true := by
  unfold idiomlaw07_TagWithin.f
  rw [copy_f1 z, copy_f1 z']
  simp only [Option.bind_some]
  refine Ev.bind (within_f z z') (Ev.bind (rwithin_f z z') ?_)
  simp only [bne_self_eq_false, Bool.false_eq_true, if_false]
  refine Ev.step (fun k => by simp only [idiomlaw07_TagWithin.j0]; rw [if_neg (by simp)]) ?_
  refine Ev.bind (within_f z z) (Ev.bind (within_f z sz0) (Ev.bind (rcheck_f z) ?_))
  have e1 : withinP l s r V K l s r V K = (checkP l s r V K == 0, checkP l s r V K) := by
    unfold withinP inP
    by_cases h : checkP l s r V K = 0
    · rw [if_pos h, if_pos h, if_pos (fields_own l s r), if_pos (sub_own V), subK_own, h]; rfl
    · rw [if_neg h]
      have : (checkP l s r V K == 0) = false := beq_eq_false_iff_ne.2 h
      rw [this]
  have e2 : withinP l s r V K ⟨#[]⟩ ⟨#[]⟩ ⟨#[]⟩ [] [] = (checkP l s r V K == 0, checkP l s r V K) := by
    unfold withinP inP
    by_cases h : checkP l s r V K = 0
    · rw [if_pos h, if_pos check0, if_pos (fields_root l s r), if_pos (show subV V [] = true from rfl), h]; rfl
    · rw [if_neg h]
      have : (checkP l s r V K == 0) = false := beq_eq_false_iff_ne.2 h
      rw [this]
  rw [e1, e2]
  simp only [beq_self_eq_true, if_true]
  exact Ev.bind awake_f2 (Ev.now _)
end Go.Proofs.YtphjhbppjakocaaGreatDoor.Pl
