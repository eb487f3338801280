/- The document's put and putKey, as plain insertion; conditions: at most 65 members. -/
import Derived.Test.YtphjhbppjakocaaGreatDoorPl6
namespace Go.Proofs.YtphjhbppjakocaaGreatDoor.Pl
open Go.RowKit Go.Proofs.YtphjhbppjakocaaGreatDoorW.PrintWords Go.Proofs.YtphjhbppjakocaaGreatDoor.PTag
set_option linter.unusedVariables false
theorem rdOf_drop {vs : List ByteArray} {i : Nat} {y : ByteArray} {ys : List ByteArray} (h : vs.drop i = y :: ys) : i < vs.length ∧ rdOf ByteArray.empty vs (i : Int) = y ∧ vs.drop (i + 1) = ys := by
  have hi : i < vs.length := Classical.byContradiction fun hc => by rw [List.drop_eq_nil_of_le (by omega)] at h; cases h
  have h2 := List.drop_eq_getElem_cons hi
  rw [h] at h2
  obtain ⟨e1, e2⟩ := List.cons.inj h2
  refine ⟨hi, ?_, e2.symm⟩
  rw [e1]
  simp [rdOf, hi]
theorem drop_nil {α : Type} {vs : List α} {i : Nat} (h : vs.drop i = []) : vs.length ≤ i := List.drop_eq_nil_iff.1 h
theorem tl_ne {x y : ByteArray} : (y.toList = x.toList) ↔ y = x := ⟨fun h => L_inj (by rw [← toList_L, ← toList_L, h]), fun h => by rw [h]⟩
theorem put_d (vs : List ByteArray) (x : ByteArray) (hv : vs.length ≤ 64) : ∀ (ys acc : List ByteArray) (i : Nat), vs.drop i = ys → x ∉ ys → acc.length ≤ i + 1 → i ≤ vs.length → Ev (fun k => idiomref07_put.l0 k vs x acc true (i : Int)) (acc ++ ys, true)
  | [], acc, i, h, _, ha, hi => by
    refine Ev.step (f := fun _ => some (acc, true)) (fun k => ?_) (by simpa using Ev.now _)
    have := drop_nil h
    simp only [idiomref07_put.l0]
    rw [if_neg (by omega), if_pos trivial]
  | y :: ys, acc, i, h, hx, ha, hi => by
    obtain ⟨h1, h2, h3⟩ := rdOf_drop h
    have hxy : ¬ y.toList = x.toList := fun e => hx (by rw [tl_ne.1 e]; exact List.mem_cons_self ..)
    refine Ev.step (f := fun k => idiomref07_put.j1 k vs x acc true (i : Int) false) (fun k => ?_) (Ev.step (f := fun k => idiomref07_put.l0 k vs x (acc ++ [y]) true ((i + 1 : Nat) : Int)) (fun k => ?_) ?_)
    · simp only [idiomref07_put.l0]
      rw [if_pos (by omega), if_pos (by omega), h2, if_neg hxy, if_pos trivial]
    · simp only [idiomref07_put.j1]
      rw [if_neg (by simp), if_pos (by omega), if_pos (by omega), if_pos (by omega), h2, w64 (by omega)]; rfl
    · have := put_d vs x hv ys (acc ++ [y]) (i + 1) h3 (fun hm => hx (List.mem_cons_of_mem _ hm)) (by simp; omega) (by omega)
      rw [List.append_assoc] at this
      exact this
theorem put_n (vs : List ByteArray) (x : ByteArray) (hv : vs.length ≤ 64) : ∀ (ys acc : List ByteArray) (i : Nat), vs.drop i = ys → x ∉ ys → acc.length ≤ i → i ≤ vs.length → Ev (fun k => idiomref07_put.l0 k vs x acc false (i : Int)) (acc ++ ins ltT x ys, true)
  | [], acc, i, h, _, ha, hi => by
    refine Ev.step (f := fun _ => some (acc ++ [x], true)) (fun k => ?_) (by simpa [ins] using Ev.now _)
    have := drop_nil h
    simp only [idiomref07_put.l0]
    rw [if_neg (by omega), if_neg (by simp), if_pos (by omega)]
  | y :: ys, acc, i, h, hx, ha, hi => by
    obtain ⟨h1, h2, h3⟩ := rdOf_drop h
    have hxy : ¬ y.toList = x.toList := fun e => hx (by rw [tl_ne.1 e]; exact List.mem_cons_self ..)
    have hm : x ∉ ys := fun hm => hx (List.mem_cons_of_mem _ hm)
    refine Ev.step (f := fun k => idiomref07_put.j1 k vs x acc false (i : Int) (ltT x y)) (fun k => ?_) ?_
    · simp only [idiomref07_put.l0]
      rw [if_pos (by omega), if_pos (by omega), h2, if_neg hxy, if_neg (by simp)]; rfl
    · by_cases hl : ltT x y = true
      · rw [hl]
        refine Ev.step (f := fun k => idiomref07_put.l0 k vs x (acc ++ [x] ++ [y]) true ((i + 1 : Nat) : Int)) (fun k => ?_) ?_
        · simp only [idiomref07_put.j1]
          rw [if_pos trivial, if_pos (by omega)]
          simp only [Option.bind_some]
          rw [if_pos (by omega), if_pos (by omega), if_pos (by simp; omega), h2, w64 (by omega)]; rfl
        · have := put_d vs x hv ys (acc ++ [x] ++ [y]) (i + 1) h3 hm (by simp; omega) (by omega)
          unfold ins
          rw [if_pos hl]
          simpa [List.append_assoc] using this
      · rw [Bool.not_eq_true] at hl
        rw [hl]
        refine Ev.step (f := fun k => idiomref07_put.l0 k vs x (acc ++ [y]) false ((i + 1 : Nat) : Int)) (fun k => ?_) ?_
        · simp only [idiomref07_put.j1]
          rw [if_neg (by simp), if_pos (by omega), if_pos (by omega), if_pos (by omega), h2, w64 (by omega)]; rfl
        · have := put_n vs x hv ys (acc ++ [y]) (i + 1) h3 hm (by simp; omega) (by omega)
          unfold ins
          rw [hl, if_neg (by simp)]
          simpa [List.append_assoc] using this
theorem put_m (vs : List ByteArray) (x : ByteArray) (hv : vs.length ≤ 64) : ∀ (ys acc : List ByteArray) (i : Nat) (d : Bool), vs.drop i = ys → x ∈ ys → acc.length ≤ i + 1 → (d = false → acc.length ≤ i) → i ≤ vs.length → Ev (fun k => idiomref07_put.l0 k vs x acc d (i : Int)) (vs, false)
  | [], acc, i, d, h, hx, _, _, hi => by cases hx
  | y :: ys, acc, i, d, h, hx, ha, hd, hi => by
    obtain ⟨h1, h2, h3⟩ := rdOf_drop h
    by_cases hxy : y.toList = x.toList
    · refine Ev.step (f := fun _ => some (vs, false)) (fun k => ?_) (Ev.now _)
      simp only [idiomref07_put.l0]
      rw [if_pos (by omega), if_pos (by omega), h2, if_pos hxy]
    · have hm : x ∈ ys := by
        rcases List.mem_cons.1 hx with rfl | hm
        · exact absurd rfl hxy
        · exact hm
      have go : ∀ b : Bool, (b = true → d = false) → Ev (fun k => idiomref07_put.j1 k vs x acc d (i : Int) b) (vs, false) := by
        intro b hb
        cases b with
        | true =>
          have := hd (hb rfl)
          refine Ev.step (f := fun k => idiomref07_put.l0 k vs x (acc ++ [x] ++ [y]) true ((i + 1 : Nat) : Int)) (fun k => ?_) (put_m vs x hv ys _ (i + 1) true h3 hm (by simp; omega) (fun h => by cases h) (by omega))
          simp only [idiomref07_put.j1]
          rw [if_pos trivial, if_pos (by omega)]
          simp only [Option.bind_some]
          rw [if_pos (by omega), if_pos (by omega), if_pos (by simp; omega), h2, w64 (by omega)]; rfl
        | false =>
          refine Ev.step (f := fun k => idiomref07_put.l0 k vs x (acc ++ [y]) d ((i + 1 : Nat) : Int)) (fun k => ?_) (put_m vs x hv ys _ (i + 1) d h3 hm (by simp; omega) (fun h => by have := hd h; simp; omega) (by omega))
          simp only [idiomref07_put.j1]
          rw [if_neg (by simp), if_pos (by omega), if_pos (by omega), if_pos (by omega), h2, w64 (by omega)]; rfl
      cases d with
      | true =>
        refine Ev.step (f := fun k => idiomref07_put.j1 k vs x acc true (i : Int) false) (fun k => ?_) (go false (fun h => by cases h))
        simp only [idiomref07_put.l0]
        rw [if_pos (by omega), if_pos (by omega), h2, if_neg hxy, if_pos trivial]
      | false =>
        refine Ev.step (f := fun k => idiomref07_put.j1 k vs x acc false (i : Int) (ltT x y)) (fun k => ?_) (go _ (fun _ => rfl))
        simp only [idiomref07_put.l0]
        rw [if_pos (by omega), if_pos (by omega), h2, if_neg hxy, if_neg (by simp)]; rfl
theorem put_f (vs : List ByteArray) (x : ByteArray) (hv : vs.length ≤ 64) : Ev (fun k => idiomref07_put.f k vs x) (if Lib.containsS vs x = true then (vs, false) else (ins ltT x vs, true)) := by
  unfold idiomref07_put.f
  by_cases hx : x ∈ vs
  · rw [if_pos ((Lib.containsS_iff ..).2 hx)]
    exact put_m vs x hv vs [] 0 false rfl hx (by simp) (by simp) (by simp)
  · rw [if_neg (fun h => hx ((Lib.containsS_iff ..).1 h))]
    have := put_n vs x hv vs [] 0 rfl hx (by simp) (by simp)
    simpa using this
theorem rdK_drop {vs : List Ky} {i : Nat} {y : Ky} {ys : List Ky} (h : vs.drop i = y :: ys) : i < vs.length ∧ rd_T39 vs (i : Int) = y ∧ vs.drop (i + 1) = ys := by
  have hi : i < vs.length := Classical.byContradiction fun hc => by rw [List.drop_eq_nil_of_le (by omega)] at h; cases h
  have h2 := List.drop_eq_getElem_cons hi
  rw [h] at h2
  obtain ⟨e1, e2⟩ := List.cons.inj h2
  refine ⟨hi, ?_, e2.symm⟩
  rw [e1]
  simp [rd_T39, hi]
theorem nm_not {ks : List Ky} {nm : ByteArray} (h : hasName ks nm = false) {y : Ky} (hy : y ∈ ks) : ¬ y.f0.toList = nm.toList := by
  unfold hasName at h
  rw [List.any_eq_false] at h
  simpa using h y hy
theorem putK_d (vs : List Ky) (a b : ByteArray) (hv : vs.length ≤ 64) : ∀ (ys acc : List Ky) (i : Nat), vs.drop i = ys → hasName ys a = false → acc.length ≤ i + 1 → i ≤ vs.length → Ev (fun k => idiomref07_putKey.l0 k vs acc true (i : Int) a b) (acc ++ ys, true)
  | [], acc, i, h, _, ha, hi => by
    refine Ev.step (f := fun _ => some (acc, true)) (fun k => ?_) (by simpa using Ev.now _)
    have := drop_nil h
    simp only [idiomref07_putKey.l0]
    rw [if_neg (by omega), if_pos trivial]
  | y :: ys, acc, i, h, hx, ha, hi => by
    obtain ⟨h1, h2, h3⟩ := rdK_drop h
    have hxy := nm_not hx (List.mem_cons_self ..)
    refine Ev.step (f := fun k => idiomref07_putKey.j1 k vs acc true (i : Int) false a b) (fun k => ?_) (Ev.step (f := fun k => idiomref07_putKey.l0 k vs (acc ++ [y]) true ((i + 1 : Nat) : Int) a b) (fun k => ?_) ?_)
    · simp only [idiomref07_putKey.l0]
      rw [if_pos (by omega), if_pos (by omega), h2, if_neg hxy, if_pos trivial]
    · simp only [idiomref07_putKey.j1]
      rw [if_neg (by simp), if_pos (by omega), if_pos (by omega), if_pos (by omega), h2, w64 (by omega)]; rfl
    · have := putK_d vs a b hv ys (acc ++ [y]) (i + 1) h3 (by unfold hasName at hx ⊢; simp at hx ⊢; exact hx.2) (by simp; omega) (by omega)
      rw [List.append_assoc] at this
      exact this
theorem putK_n (vs : List Ky) (a b : ByteArray) (hv : vs.length ≤ 64) : ∀ (ys acc : List Ky) (i : Nat), vs.drop i = ys → hasName ys a = false → acc.length ≤ i → i ≤ vs.length → Ev (fun k => idiomref07_putKey.l0 k vs acc false (i : Int) a b) (acc ++ ins ltK ⟨a, b⟩ ys, true)
  | [], acc, i, h, _, ha, hi => by
    refine Ev.step (f := fun _ => some (acc ++ [⟨a, b⟩], true)) (fun k => ?_) (by simpa [ins] using Ev.now _)
    have := drop_nil h
    simp only [idiomref07_putKey.l0]
    rw [if_neg (by omega), if_neg (by simp), if_pos (by omega)]
  | y :: ys, acc, i, h, hx, ha, hi => by
    obtain ⟨h1, h2, h3⟩ := rdK_drop h
    have hxy := nm_not hx (List.mem_cons_self ..)
    have hm : hasName ys a = false := by unfold hasName at hx ⊢; simp at hx ⊢; exact hx.2
    refine Ev.step (f := fun k => idiomref07_putKey.j1 k vs acc false (i : Int) (ltK ⟨a, b⟩ y) a b) (fun k => ?_) ?_
    · simp only [idiomref07_putKey.l0]
      rw [if_pos (by omega), if_pos (by omega), h2, if_neg hxy, if_neg (by simp)]; rfl
    · by_cases hl : ltK ⟨a, b⟩ y = true
      · rw [hl]
        refine Ev.step (f := fun k => idiomref07_putKey.l0 k vs (acc ++ [⟨a, b⟩] ++ [y]) true ((i + 1 : Nat) : Int) a b) (fun k => ?_) ?_
        · simp only [idiomref07_putKey.j1]
          rw [if_pos trivial, if_pos (by omega)]
          simp only [Option.bind_some]
          rw [if_pos (by omega), if_pos (by omega), if_pos (by simp; omega), h2, w64 (by omega)]; rfl
        · have := putK_d vs a b hv ys (acc ++ [⟨a, b⟩] ++ [y]) (i + 1) h3 hm (by simp; omega) (by omega)
          unfold ins
          rw [if_pos hl]
          simpa [List.append_assoc] using this
      · rw [Bool.not_eq_true] at hl
        rw [hl]
        refine Ev.step (f := fun k => idiomref07_putKey.l0 k vs (acc ++ [y]) false ((i + 1 : Nat) : Int) a b) (fun k => ?_) ?_
        · simp only [idiomref07_putKey.j1]
          rw [if_neg (by simp), if_pos (by omega), if_pos (by omega), if_pos (by omega), h2, w64 (by omega)]; rfl
        · have := putK_n vs a b hv ys (acc ++ [y]) (i + 1) h3 hm (by simp; omega) (by omega)
          unfold ins
          rw [hl, if_neg (by simp)]
          simpa [List.append_assoc] using this
theorem putK_m (vs : List Ky) (a b : ByteArray) (hv : vs.length ≤ 64) : ∀ (ys acc : List Ky) (i : Nat) (d : Bool), vs.drop i = ys → hasName ys a = true → acc.length ≤ i + 1 → (d = false → acc.length ≤ i) → i ≤ vs.length → Ev (fun k => idiomref07_putKey.l0 k vs acc d (i : Int) a b) (vs, false)
  | [], acc, i, d, h, hx, _, _, hi => by cases hx
  | y :: ys, acc, i, d, h, hx, ha, hd, hi => by
    obtain ⟨h1, h2, h3⟩ := rdK_drop h
    by_cases hxy : y.f0.toList = a.toList
    · refine Ev.step (f := fun _ => some (vs, false)) (fun k => ?_) (Ev.now _)
      simp only [idiomref07_putKey.l0]
      rw [if_pos (by omega), if_pos (by omega), h2, if_pos hxy]
    · have hm : hasName ys a = true := by unfold hasName at hx ⊢; simpa [hxy] using hx
      have go : ∀ q : Bool, (q = true → d = false) → Ev (fun k => idiomref07_putKey.j1 k vs acc d (i : Int) q a b) (vs, false) := by
        intro q hb
        cases q with
        | true =>
          have := hd (hb rfl)
          refine Ev.step (f := fun k => idiomref07_putKey.l0 k vs (acc ++ [⟨a, b⟩] ++ [y]) true ((i + 1 : Nat) : Int) a b) (fun k => ?_) (putK_m vs a b hv ys _ (i + 1) true h3 hm (by simp; omega) (fun h => by cases h) (by omega))
          simp only [idiomref07_putKey.j1]
          rw [if_pos trivial, if_pos (by omega)]
          simp only [Option.bind_some]
          rw [if_pos (by omega), if_pos (by omega), if_pos (by simp; omega), h2, w64 (by omega)]; rfl
        | false =>
          refine Ev.step (f := fun k => idiomref07_putKey.l0 k vs (acc ++ [y]) d ((i + 1 : Nat) : Int) a b) (fun k => ?_) (putK_m vs a b hv ys _ (i + 1) d h3 hm (by simp; omega) (fun h => by have := hd h; simp; omega) (by omega))
          simp only [idiomref07_putKey.j1]
          rw [if_neg (by simp), if_pos (by omega), if_pos (by omega), if_pos (by omega), h2, w64 (by omega)]; rfl
      cases d with
      | true =>
        refine Ev.step (f := fun k => idiomref07_putKey.j1 k vs acc true (i : Int) false a b) (fun k => ?_) (go false (fun h => by cases h))
        simp only [idiomref07_putKey.l0]
        rw [if_pos (by omega), if_pos (by omega), h2, if_neg hxy, if_pos trivial]
      | false =>
        refine Ev.step (f := fun k => idiomref07_putKey.j1 k vs acc false (i : Int) (ltK ⟨a, b⟩ y) a b) (fun k => ?_) (go _ (fun _ => rfl))
        simp only [idiomref07_putKey.l0]
        rw [if_pos (by omega), if_pos (by omega), h2, if_neg hxy, if_neg (by simp)]; rfl
theorem putK_f (vs : List Ky) (a b : ByteArray) (hv : vs.length ≤ 64) : Ev (fun k => idiomref07_putKey.f k vs a b) (if hasName vs a = true then (vs, false) else (ins ltK ⟨a, b⟩ vs, true)) := by
  unfold idiomref07_putKey.f
  by_cases hx : hasName vs a = true
  · rw [if_pos hx]
    exact putK_m vs a b hv vs [] 0 false rfl hx (by simp) (by simp) (by simp)
  · rw [if_neg hx]
    rw [Bool.not_eq_true] at hx
    have := putK_n vs a b hv vs [] 0 rfl hx (by simp) (by simp)
    simpa using this
end Go.Proofs.YtphjhbppjakocaaGreatDoor.Pl
