/- What the document's Check tells of a tag: what the program's tells; conditions: texts of at most 1048576 bytes, rows of at most 1048576 places. -/
import Derived.Test.YtphjhbppjakocaaGreatDoorChk3
import Derived.Test.YtphjhbppjakocaaGreatDoorPU7
namespace Go.Proofs.YtphjhbppjakocaaGreatDoor.Pl
open Go.RowKit Go.Proofs.YtphjhbppjakocaaGreatDoorW.PrintWords Go.Proofs.YtphjhbppjakocaaGreatDoor.PTag
set_option linter.unusedVariables false
theorem low_ne (v : ByteArray) : ((low v).toList != v.toList) = !decide (low v = v) := by
  rw [toList_L, toList_L]
  by_cases h : low v = v
  · rw [decide_eq_true h, h]; simp
  · rw [decide_eq_false h]
    simp only [Bool.not_false, bne_iff_ne, ne_eq]
    exact fun e => h (L_inj e)
theorem smallF (s : ByteArray) (h : s.size ≤ 1048576) : idiomref07_Small.f s = some (low s) := by unfold idiomref07_Small.f; rw [if_pos (by omega)]; rfl
theorem greatF (s : ByteArray) (h : s.size ≤ 1048576) : idiomref07_great.f s = some (upp s) := by unfold idiomref07_great.f; rw [if_pos (by omega)]; rfl
theorem rise_some (p v : ByteArray) : rise (some p) v = if p.toList = v.toList then 6 else if Op.bytesLess v.toList p.toList = true then 70 else 0 := rfl
section
variable {l s r : ByteArray} {V : List ByteArray} {K : List Ke} (z : Sz l s r V K)
include z
theorem rj2 {i : Nat} {pr : Option ByteArray} {v : ByteArray} {ys : List ByteArray} (h : At V i pr (v :: ys)) {X : Int} (hX : Ev (fun k => idiomref07_Check.l0 k ((i + 1 : Nat) : Int) l s r V K) X) :
    Ev (fun k => idiomref07_Check.j2 k (i : Int) v false l s r V K) (if rise pr v = 0 then X else rise pr v) := by
  have hn := z.nV
  have hi := (drop_cons h.1).1
  have hw : wrap64 ((i : Int) + 1) = ((i + 1 : Nat) : Int) := w64 (by omega)
  cases pr with
  | none =>
    have h0 : i = 0 := h.2
    subst h0
    show Ev _ X
    refine Ev.step (f := fun k => idiomref07_Check.j3 k ((0 : Nat) : Int) v false l s r V K) (fun k => ?_) (Ev.step (f := fun k => idiomref07_Check.j4 k ((0 : Nat) : Int) false l s r V K) (fun k => ?_) (Ev.step (fun k => ?_) hX))
    · simp only [idiomref07_Check.j2]; rw [if_neg (by simp), if_neg (by omega)]
    · simp only [idiomref07_Check.j3]; rw [if_neg (by simp), if_neg (by omega)]
    · simp only [idiomref07_Check.j4]; rw [if_neg (by simp), hw]
  | some p =>
    obtain ⟨j, rfl, hj⟩ := h.2
    have hp := rdOf_c (drop_cons hj).2.1
    have hjl := (drop_cons hj).1
    refine Ev.step (f := fun k => idiomref07_Check.j3 k ((j + 1 : Nat) : Int) v (p.toList == v.toList) l s r V K) (fun k => ?_) ?_
    · simp only [idiomref07_Check.j2]
      rw [if_neg (by simp), if_pos (by omega), w64_pred j (by omega), if_pos (by omega), if_pos (by omega), hp]
    · rw [rise_some]
      by_cases h1 : p.toList = v.toList
      · rw [if_pos h1]
        have e : (p.toList == v.toList) = true := beq_iff_eq.2 h1
        rw [e]
        exact Ev.step (f := fun _ => some 6) (fun k => by simp [idiomref07_Check.j3]) (Ev.now _)
      · rw [if_neg h1]
        have e : (p.toList == v.toList) = false := beq_eq_false_iff_ne.2 h1
        rw [e]
        refine Ev.step (f := fun k => idiomref07_Check.j4 k ((j + 1 : Nat) : Int) (Op.bytesLess v.toList p.toList) l s r V K) (fun k => ?_) ?_
        · simp only [idiomref07_Check.j3]
          rw [if_neg (by simp), if_pos (by omega), w64_pred j (by omega), if_pos (by omega), if_pos (by omega), hp]
        · cases hb : Op.bytesLess v.toList p.toList with
          | true => exact Ev.step (f := fun _ => some 70) (fun k => by simp [idiomref07_Check.j4]) (Ev.now _)
          | false =>
            show Ev _ X
            refine Ev.step (fun k => ?_) hX
            simp only [idiomref07_Check.j4]; rw [if_neg (by simp), hw]
theorem rl0 (hK : Ev (fun k => if (K.length : Int) > 64 then some 5 else idiomref07_Check.l1 k 0 l s r V K) (restK K)) : ∀ (ys : List ByteArray) (pr : Option ByteArray) (i : Nat), At V i pr ys →
    Ev (fun k => idiomref07_Check.l0 k (i : Int) l s r V K) (if vcP pr ys = 0 then restK K else vcP pr ys)
  | [], pr, i, h => by
    have hi : V.length ≤ i := List.drop_eq_nil_iff.1 h.1
    show Ev _ (restK K)
    refine Ev.step (fun k => ?_) hK
    simp only [idiomref07_Check.l0]
    rw [if_neg (by omega)]
  | v :: ys, pr, i, h => by
    have ih := rl0 hK ys (some v) (i + 1) h.next
    obtain ⟨hi, hv, _⟩ := drop_cons h.1
    have hz := z.vV v (List.mem_of_getElem? hv)
    have h4 := rj2 z h ih
    refine Ev.step (f := fun k => (idiomref07_variant.f k v).bind fun t => if t = true then (idiomref07_Small.f v).bind fun u => idiomref07_Check.j2 k (i : Int) v (u.toList != v.toList) l s r V K else idiomref07_Check.j2 k (i : Int) v true l s r V K) (fun k => ?_) (Ev.bind (rvariant_f v (by omega)) ?_)
    · simp only [idiomref07_Check.l0]
      rw [if_pos (by omega), if_pos (by omega), rdOf_c hv]
    · have bad : Ev (fun k => idiomref07_Check.j2 k (i : Int) v true l s r V K) 70 := Ev.step (f := fun _ => some 70) (fun k => by simp [idiomref07_Check.j2]) (Ev.now _)
      unfold vcP
      cases ha : vart (L v) with
      | false => simpa using bad
      | true =>
        simp only [if_true]
        rw [smallF v hz]
        simp only [Option.bind_some, low_ne]
        by_cases hl : low v = v
        · rw [decide_eq_true hl, if_pos hl]
          show Ev (fun k => idiomref07_Check.j2 k (i : Int) v false l s r V K) _
          have e : (if (if rise pr v = 0 then vcP (some v) ys else rise pr v) = 0 then restK K else (if rise pr v = 0 then vcP (some v) ys else rise pr v)) = if rise pr v = 0 then (if vcP (some v) ys = 0 then restK K else vcP (some v) ys) else rise pr v := by
            by_cases hr : rise pr v = 0
            · simp only [if_pos hr]
            · simp only [if_neg hr]
          rw [e]; exact h4
        · rw [decide_eq_false hl, if_neg hl]
          simpa using bad
theorem rj6 {i : Nat} {pr : Option Ke} {v : Ke} {ys : List Ke} (h : At K i pr (v :: ys)) {X : Int} (hX : Ev (fun k => idiomref07_Check.l1 k ((i + 1 : Nat) : Int) l s r V K) X) :
    Ev (fun k => idiomref07_Check.j6 k (i : Int) false l s r V K v.f0 v.f1) (if rise (pr.map (·.f0)) v.f0 = 0 then X else rise (pr.map (·.f0)) v.f0) := by
  have hn := z.nK
  have hi := (drop_cons h.1).1
  have hw : wrap64 ((i : Int) + 1) = ((i + 1 : Nat) : Int) := w64 (by omega)
  cases pr with
  | none =>
    have h0 : i = 0 := h.2
    subst h0
    show Ev _ X
    refine Ev.step (f := fun k => idiomref07_Check.j7 k ((0 : Nat) : Int) false l s r V K v.f0 v.f1) (fun k => ?_) (Ev.step (f := fun k => idiomref07_Check.j8 k ((0 : Nat) : Int) false l s r V K) (fun k => ?_) (Ev.step (fun k => ?_) hX))
    · simp only [idiomref07_Check.j6]; rw [if_neg (by simp), if_neg (by omega)]
    · simp only [idiomref07_Check.j7]; rw [if_neg (by simp), if_neg (by omega)]
    · simp only [idiomref07_Check.j8]; rw [if_neg (by simp), hw]
  | some p =>
    obtain ⟨j, rfl, hj⟩ := h.2
    have hp := rdK_c (drop_cons hj).2.1
    have hjl := (drop_cons hj).1
    show Ev _ (if rise (some p.f0) v.f0 = 0 then X else rise (some p.f0) v.f0)
    refine Ev.step (f := fun k => idiomref07_Check.j7 k ((j + 1 : Nat) : Int) (p.f0.toList == v.f0.toList) l s r V K v.f0 v.f1) (fun k => ?_) ?_
    · simp only [idiomref07_Check.j6]
      rw [if_neg (by simp), if_pos (by omega), w64_pred j (by omega), if_pos (by omega), if_pos (by omega), hp]
    · rw [rise_some]
      by_cases h1 : p.f0.toList = v.f0.toList
      · rw [if_pos h1]
        have e : (p.f0.toList == v.f0.toList) = true := beq_iff_eq.2 h1
        rw [e]
        exact Ev.step (f := fun _ => some 6) (fun k => by simp [idiomref07_Check.j7]) (Ev.now _)
      · rw [if_neg h1]
        have e : (p.f0.toList == v.f0.toList) = false := beq_eq_false_iff_ne.2 h1
        rw [e]
        refine Ev.step (f := fun k => idiomref07_Check.j8 k ((j + 1 : Nat) : Int) (Op.bytesLess v.f0.toList p.f0.toList) l s r V K) (fun k => ?_) ?_
        · simp only [idiomref07_Check.j7]
          rw [if_neg (by simp), if_pos (by omega), w64_pred j (by omega), if_pos (by omega), if_pos (by omega), hp]
        · cases hb : Op.bytesLess v.f0.toList p.f0.toList with
          | true => exact Ev.step (f := fun _ => some 70) (fun k => by simp [idiomref07_Check.j8]) (Ev.now _)
          | false =>
            show Ev _ X
            refine Ev.step (fun k => ?_) hX
            simp only [idiomref07_Check.j8]; rw [if_neg (by simp), hw]
theorem rl1 : ∀ (ys : List Ke) (pr : Option Ke) (i : Nat), At K i pr ys → Ev (fun k => idiomref07_Check.l1 k (i : Int) l s r V K) (kcP pr ys)
  | [], pr, i, h => by
    have hi : K.length ≤ i := List.drop_eq_nil_iff.1 h.1
    refine Ev.step (f := fun _ => some 0) (fun k => ?_) (Ev.now _)
    simp only [idiomref07_Check.l1]
    rw [if_neg (by omega)]
  | v :: ys, pr, i, h => by
    have ih := rl1 ys (some v) (i + 1) h.next
    obtain ⟨hi, hv, _⟩ := drop_cons h.1
    have hz := z.vK v (List.mem_of_getElem? hv)
    have h6 := rj6 z h ih
    have bad : Ev (fun k => idiomref07_Check.j6 k (i : Int) true l s r V K v.f0 v.f1) 70 := Ev.step (f := fun _ => some 70) (fun k => by simp [idiomref07_Check.j6]) (Ev.now _)
    refine Ev.step (f := fun k => (idiomref07_signs.f k v.f0 2 2).bind fun t => if t = true then (idiomref07_Small.f v.f0).bind fun u => if u.toList = v.f0.toList then (idiomref07_value.f k v.f1).bind fun q => idiomref07_Check.j6 k (i : Int) (!q) l s r V K v.f0 v.f1 else idiomref07_Check.j6 k (i : Int) true l s r V K v.f0 v.f1 else idiomref07_Check.j6 k (i : Int) true l s r V K v.f0 v.f1) (fun k => ?_) (Ev.bind (rsigns_f v.f0 2 2 (by omega)) ?_)
    · simp only [idiomref07_Check.l1]
      rw [if_pos (by omega), if_pos (by omega), rdK_c hv]
    · unfold kcP
      cases ha : sgns (L v.f0) 2 2 with
      | false => simpa using bad
      | true =>
        simp only [if_true]
        rw [smallF v.f0 hz.1]
        simp only [Option.bind_some]
        by_cases hl : low v.f0 = v.f0
        · rw [if_pos hl]
          simp only [hl, if_true]
          refine Ev.bind (value_f v.f1 hz.2) ?_
          cases hq : valP v.f1 with
          | true => simpa using h6
          | false => simpa using bad
        · rw [if_neg hl]
          have : ¬ (low v.f0).toList = v.f0.toList := fun e => hl (L_inj (by rw [toList_L, toList_L] at e; exact e))
          simp only [if_neg this]
          exact bad
theorem rk : Ev (fun k => if (K.length : Int) > 64 then some 5 else idiomref07_Check.l1 k 0 l s r V K) (restK K) := by
  unfold restK
  by_cases h : K.length > 64
  · rw [if_pos h]; simp only [if_pos (show (K.length : Int) > 64 by omega)]; exact Ev.now _
  · rw [if_neg h]; simp only [if_neg (show ¬ (K.length : Int) > 64 by omega)]; exact rl1 z K none 0 (At.start K)
theorem rj0 : Ev (fun k => idiomref07_Check.j0 k false l s r V K) (contP V K) := by
  unfold contP
  refine Ev.step (f := fun k => if (V.length : Int) > 64 then some 5 else idiomref07_Check.l0 k 0 l s r V K) (fun k => by simp only [idiomref07_Check.j0]; rw [if_neg (by simp)]) ?_
  by_cases h : V.length > 64
  · rw [if_pos h]; simp only [if_pos (show (V.length : Int) > 64 by omega)]; exact Ev.now _
  · rw [if_neg h]; simp only [if_neg (show ¬ (V.length : Int) > 64 by omega)]; exact rl0 z (rk z) V none 0 (At.start V)
theorem rcheck_f : Ev (fun k => idiomref07_Check.f k l s r V K) (checkP l s r V K) := by
  have b0 : Ev (fun k => idiomref07_Check.j0 k true l s r V K) 70 := Ev.step (f := fun _ => some 70) (fun k => by simp [idiomref07_Check.j0]) (Ev.now _)
  have cR : Ev (fun k => if r.toList = ([] : List UInt8) then idiomref07_Check.j0 k false l s r V K else (idiomref07_region.f k r).bind fun t => if t = true then (idiomref07_great.f r).bind fun u => idiomref07_Check.j0 k (u.toList != r.toList) l s r V K else idiomref07_Check.j0 k true l s r V K) (if regOk r = true then contP V K else 70) := by
    unfold regOk
    rw [toList_L]
    by_cases h0 : L r = []
    · rw [decide_eq_true h0]; simp only [if_pos h0]; exact rj0 z
    · rw [decide_eq_false h0, Bool.false_or]; simp only [if_neg h0]
      refine Ev.bind (rregion_f r (by have := z.r; omega)) ?_
      cases hr : regn (L r) with
      | false => simpa using b0
      | true =>
        simp only [if_true, Bool.true_and]
        rw [greatF r z.r]
        simp only [Option.bind_some, toList_L]
        by_cases hu : upp r = r
        · rw [hu]; simpa using rj0 z
        · have : (L (upp r) != L r) = true := by simp only [bne_iff_ne, ne_eq]; exact fun e => hu (L_inj e)
          rw [this]; simpa [hu] using b0
  have cS : Ev (fun k => if s.toList = ([] : List UInt8) then (if r.toList = ([] : List UInt8) then idiomref07_Check.j0 k false l s r V K else (idiomref07_region.f k r).bind fun t => if t = true then (idiomref07_great.f r).bind fun u => idiomref07_Check.j0 k (u.toList != r.toList) l s r V K else idiomref07_Check.j0 k true l s r V K)
      else (idiomref07_script.f k s).bind fun t => if t = true then (idiomref07_title.f s).bind fun u => if u.toList = s.toList then (if r.toList = ([] : List UInt8) then idiomref07_Check.j0 k false l s r V K else (idiomref07_region.f k r).bind fun t => if t = true then (idiomref07_great.f r).bind fun u => idiomref07_Check.j0 k (u.toList != r.toList) l s r V K else idiomref07_Check.j0 k true l s r V K) else idiomref07_Check.j0 k true l s r V K else idiomref07_Check.j0 k true l s r V K) (if scrOk s = true then (if regOk r = true then contP V K else 70) else 70) := by
    unfold scrOk
    by_cases h0 : L s = []
    · have h0' : s.toList = [] := by rw [toList_L]; exact h0
      rw [decide_eq_true h0]; simp only [if_pos h0']; exact cR
    · have h0' : ¬ s.toList = [] := by rw [toList_L]; exact h0
      rw [decide_eq_false h0, Bool.false_or]; simp only [if_neg h0']
      refine Ev.bind (script_f s (by have := z.s; omega)) ?_
      cases hr : lets (L s) 4 4 with
      | false => simpa using b0
      | true =>
        have hlen : ¬ s.size = 0 := by unfold lets at hr; simp only [Bool.and_eq_true, decide_eq_true_eq] at hr; rw [L_len] at hr; omega
        simp only [if_true, Bool.true_and]
        rw [rtitle_f s (by have := z.s; omega), if_neg hlen]
        simp only [Option.bind_some]
        by_cases hu : titl s = s
        · simp only [hu, if_true, decide_true]; exact cR
        · have : ¬ (titl s).toList = s.toList := by rw [toList_L, toList_L]; exact fun e => hu (L_inj e)
          simp only [if_neg this]
          simpa [hu] using b0
  unfold idiomref07_Check.f checkP langOk
  by_cases h0 : L l = []
  · have h0' : l.toList = [] := by rw [toList_L]; exact h0
    rw [decide_eq_true h0]; simp only [if_pos h0']; exact cS
  · have h0' : ¬ l.toList = [] := by rw [toList_L]; exact h0
    rw [decide_eq_false h0, Bool.false_or]; simp only [if_neg h0']
    refine Ev.bind (lang_f l (by have := z.l; omega)) ?_
    cases hr : lets (L l) 2 3 with
    | false => simpa using b0
    | true =>
      simp only [if_true, Bool.true_and]
      rw [smallF l z.l]
      simp only [Option.bind_some]
      by_cases hu : low l = l
      · simp only [hu, if_true, decide_true, Bool.true_and]
        by_cases h3 : L l = [117, 110, 100]
        · have h3' : l.toList = [117, 110, 100] := by rw [toList_L]; exact h3
          simp only [if_pos h3']; simpa [h3] using b0
        · have h3' : ¬ l.toList = [117, 110, 100] := by rw [toList_L]; exact h3
          simp only [if_neg h3']
          rw [decide_eq_true h3]
          exact cS
      · have : ¬ (low l).toList = l.toList := by rw [toList_L, toList_L]; exact fun e => hu (L_inj e)
        simp only [if_neg this]
        simpa [hu] using b0
end
end Go.Proofs.YtphjhbppjakocaaGreatDoor.Pl
