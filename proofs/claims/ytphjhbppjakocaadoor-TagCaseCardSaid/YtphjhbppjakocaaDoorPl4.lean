/- What the program's reader tells, as plain total functions of pieces; conditions: each piece of at most 65536 bytes. -/
import Derived.Test.YtphjhbppjakocaaDoorPl3
import Derived.Test.YtphjhbppjakocaaDoorPCase8
namespace Go.Proofs.YtphjhbppjakocaaDoor.Pl
open Go.RowKit Go.Proofs.YtphjhbppjakocaaDoorW.PrintWords Go.Proofs.YtphjhbppjakocaaDoor.PTag
set_option linter.unusedVariables false
abbrev Pc := S53
abbrev Ky := S45
def Sm (ps : List Pc) : Prop := ∀ p ∈ ps, p.f0.size ≤ 65536
theorem Sm.head {p : Pc} {ps : List Pc} (h : Sm (p :: ps)) : p.f0.size ≤ 65536 := h p (List.mem_cons_self ..)
theorem Sm.tail {p : Pc} {ps : List Pc} (h : Sm (p :: ps)) : Sm ps := fun q hq => h q (List.mem_cons_of_mem _ hq)
theorem Sm.nil : Sm [] := fun _ h => by cases h
theorem small_now {ps : List Pc} (h : Sm ps) : (nowT ps).size < 9223372036854775807 := by
  cases ps with
  | nil => show 0 < 9223372036854775807; omega
  | cons p ps => have := h.head; show p.f0.size < _; omega
theorem lowerF (s : ByteArray) (hs : s.size ≤ 65536) : tag_lower.f s = some (low s) := lower_f s (by omega)
/-- All variants that stand there. -/
def varsP : List Pc → List ByteArray → Int × List Pc × List ByteArray
  | [], vs => (0, [], vs)
  | p :: ps, vs => if vart (L p.f0) = true then (if Lib.containsS vs (low p.f0) = true then (6, p :: ps, vs) else if vs.length = 64 then (5, p :: ps, vs) else varsP ps (vs ++ [low p.f0])) else (0, p :: ps, vs)
theorem vart_nil : vart (L (⟨#[]⟩ : ByteArray)) = false := rfl
theorem vars_f : ∀ (ps : List Pc) (vs : List ByteArray), Sm ps → vs.length ≤ 64 → Ev (fun k => varsF k ps vs) (varsP ps vs)
  | [], vs, h, hv => by
    simp only [varsF, varsP]
    refine Ev.bind (variant_f ⟨#[]⟩ (by show 0 < 9223372036854775807; omega)) ?_
    rw [vart_nil]
    simpa using Ev.now _
  | p :: ps, vs, h, hv => by
    simp only [varsF, varsP]
    refine Ev.bind (variant_f p.f0 (by have := h.head; omega)) ?_
    cases hp : vart (L p.f0) with
    | false => simpa using Ev.now _
    | true =>
      simp only [if_true]
      rw [lowerF _ h.head]
      simp only [Option.bind_some]
      unfold slices_Contains_string_string.f
      rw [if_pos (by omega)]
      simp only [Option.bind_some]
      by_cases hm : Lib.containsS vs (low p.f0) = true
      · simp only [if_pos hm]; exact Ev.now _
      · simp only [if_neg hm]
        by_cases h64 : vs.length = 64
        · simp only [if_pos h64]; exact Ev.now _
        · simp only [if_neg h64, if_pos (show vs.length < 8796093022208 by omega)]
          exact vars_f ps _ h.tail (by simp; omega)
theorem varsP_len : ∀ (ps : List Pc) (vs : List ByteArray), vs.length ≤ 64 → (varsP ps vs).2.2.length ≤ 64
  | [], vs, hv => hv
  | p :: ps, vs, hv => by
    simp only [varsP]
    split
    · split
      · exact hv
      · split
        · exact hv
        · exact varsP_len ps _ (by simp; omega)
    · exact hv
theorem varsP_sm : ∀ (ps : List Pc) (vs : List ByteArray), Sm ps → Sm (varsP ps vs).2.1 ∧ (varsP ps vs).2.1.length ≤ ps.length
  | [], vs, h => ⟨h, Nat.le_refl _⟩
  | p :: ps, vs, h => by
    simp only [varsP]
    split
    · split
      · exact ⟨h, Nat.le_refl _⟩
      · split
        · exact ⟨h, Nat.le_refl _⟩
        · have := varsP_sm ps (vs ++ [low p.f0]) h.tail
          exact ⟨this.1, by rw [List.length_cons]; omega⟩
    · exact ⟨h, Nat.le_refl _⟩
/-- The pieces of a value. -/
def valsP : List Pc → List ByteArray → List Pc × List ByteArray
  | [], v => ([], v)
  | p :: ps, v => if sgns (L p.f0) 3 8 = true then valsP ps (v ++ [low p.f0]) else (p :: ps, v)
theorem vals_f : ∀ (ps : List Pc) (v : List ByteArray), Sm ps → v.length + ps.length < 8796093022208 → Ev (fun k => keyvF k ps v) (valsP ps v)
  | [], v, h, hv => by
    simp only [keyvF, valsP]
    refine Ev.bind (signs_f ⟨#[]⟩ 3 8 (by show 0 < 9223372036854775807; omega)) ?_
    rw [show sgns (L (⟨#[]⟩ : ByteArray)) 3 8 = false from rfl]
    simpa using Ev.now _
  | p :: ps, v, h, hv => by
    simp only [keyvF, valsP]
    refine Ev.bind (signs_f p.f0 3 8 (by have := h.head; omega)) ?_
    cases hp : sgns (L p.f0) 3 8 with
    | false => simpa using Ev.now _
    | true =>
      simp only [if_true]
      rw [lowerF _ h.head]
      simp only [Option.bind_some]
      rw [List.length_cons] at hv
      simp only [if_pos (show v.length < 8796093022208 by omega)]
      exact vals_f ps _ h.tail (by simp; omega)
theorem valsP_sm : ∀ (ps : List Pc) (v : List ByteArray), Sm ps → Sm (valsP ps v).1 ∧ (valsP ps v).1.length ≤ ps.length ∧ (valsP ps v).2.length ≤ v.length + ps.length
  | [], v, h => ⟨h, Nat.le_refl _, Nat.le_refl _⟩
  | p :: ps, v, h => by
    simp only [valsP]
    split
    · have := valsP_sm ps (v ++ [low p.f0]) h.tail
      simp only [List.length_append, List.length_cons, List.length_nil] at this ⊢
      exact ⟨this.1, by omega, by omega⟩
    · exact ⟨h, Nat.le_refl _, by simp only []; omega⟩
theorem valsP_le : ∀ (ps : List Pc) (v : List ByteArray), Sm ps → (∀ x ∈ v, x.size ≤ 65536) → ∀ x ∈ (valsP ps v).2, x.size ≤ 65536
  | [], v, h, hv => hv
  | p :: ps, v, h, hv => by
    simp only [valsP]
    split
    · refine valsP_le ps _ h.tail (fun x hx => ?_)
      rcases List.mem_append.1 hx with hx | hx
      · exact hv x hx
      · obtain rfl : x = low p.f0 := by simpa using hx
        rw [low_size]; exact h.head
    · exact hv
/-- A value's pieces in one text. -/
def joinD (v : List ByteArray) : ByteArray := S (Lib.join (v.map L) [45])
theorem joinD_len : ∀ (v : List ByteArray), (∀ x ∈ v, x.size ≤ 65536) → (Lib.join (v.map L) [45]).length ≤ v.length * 65537
  | [], _ => by simp [Lib.join]
  | [a], h => by
    have := h a (by simp)
    simp [Lib.join]; omega
  | a :: b :: r, h => by
    have ih := joinD_len (b :: r) (fun x hx => h x (List.mem_cons_of_mem _ hx))
    have ha := h a (by simp)
    have : Lib.join ((a :: b :: r).map L) [45] = L a ++ [45] ++ Lib.join ((b :: r).map L) [45] := by
      simp [Lib.join, List.intercalate]
    rw [this, List.length_append, List.length_append, L_len]
    simp only [List.length_cons, List.length_nil] at ih ⊢
    omega
theorem join_f (v : List ByteArray) (hv : ∀ x ∈ v, x.size ≤ 65536) (hl : v.length ≤ 65537) : strings_Join.f v ⟨#[45]⟩ = some (joinD v) := by
  have := joinD_len v hv
  have e : v.length * 65537 ≤ 65537 * 65537 := Nat.mul_le_mul_right _ hl
  unfold strings_Join.f
  rw [if_pos (by omega)]
  have e2 : (Lib.join (v.map (·.data.toList)) (⟨#[45]⟩ : ByteArray).data.toList) = Lib.join (v.map L) [45] := rfl
  rw [e2, if_pos (by omega)]
  rfl
/-- All keys that stand there. -/
def keysP : Nat → List Pc → List Ky → Int × List Pc × List Ky
  | 0, ps, ks => (0, ps, ks)
  | _ + 1, [], ks => (0, [], ks)
  | n + 1, p :: ps, ks => if sgns (L p.f0) 2 2 = true then (if hasName ks (low p.f0) = true then (6, p :: ps, ks) else if ks.length = 64 then (5, p :: ps, ks) else keysP n (valsP ps []).1 (ks ++ [⟨low p.f0, keptVal (joinD (valsP ps []).2)⟩])) else (0, p :: ps, ks)
theorem keys_f : ∀ (n : Nat) (ps : List Pc) (ks : List Ky), Sm ps → ps.length < n → ps.length ≤ 65537 → ks.length ≤ 64 → ∃ K, ∀ k, K ≤ k → ∀ m, n ≤ m → keysF k m ps ks = some (keysP n ps ks)
  | 0, ps, ks, h, hn, _, _ => by omega
  | n + 1, [], ks, h, hn, hp, hk => by
    obtain ⟨K, hK⟩ := signs_f ⟨#[]⟩ 2 2 (by show 0 < 9223372036854775807; omega)
    refine ⟨K, fun k hk m hm => ?_⟩
    obtain ⟨m, rfl⟩ : ∃ q, m = q + 1 := ⟨m - 1, by omega⟩
    simp only [keysF, keysP]
    have := hK k hk
    simp only at this
    rw [show ((2 : Nat) : Int) = 2 from rfl] at this
    rw [this]
    rfl
  | n + 1, p :: ps, ks, h, hn, hp, hk => by
    rw [List.length_cons] at hn hp
    obtain ⟨K, hK⟩ := signs_f p.f0 2 2 (by have := h.head; omega)
    have hvs := valsP_sm ps [] h.tail
    have hvl := valsP_le ps [] h.tail (by simp)
    obtain ⟨K2, hK2⟩ := vals_f ps [] h.tail (by simp; omega)
    by_cases hrec : sgns (L p.f0) 2 2 = true ∧ hasName ks (low p.f0) = false ∧ ks.length ≠ 64
    · obtain ⟨h1, h2, h3⟩ := hrec
      obtain ⟨K3, hK3⟩ := keys_f n (valsP ps []).1 (ks ++ [⟨low p.f0, keptVal (joinD (valsP ps []).2)⟩]) hvs.1 (by omega) (by omega) (by simp; omega)
      refine ⟨K + K2 + K3, fun k hk m hm => ?_⟩
      obtain ⟨m, rfl⟩ : ∃ q, m = q + 1 := ⟨m - 1, by omega⟩
      simp only [keysF, keysP]
      have e1 := hK k (by omega)
      have e2 := hK2 k (by omega)
      simp only at e1 e2
      rw [show ((2 : Nat) : Int) = 2 from rfl] at e1
      rw [e1, h1]
      simp only [Option.bind_some, if_true]
      rw [lowerF _ h.head]
      simp only [Option.bind_some, h2, Bool.false_eq_true, if_false, h3]
      rw [e2]
      simp only [Option.bind_some]
      rw [join_f _ hvl (by simp at hvs; omega)]
      simp only [Option.bind_some]
      rw [if_pos (by omega)]
      exact hK3 k (by omega) m (by omega)
    · refine ⟨K, fun k hk m hm => ?_⟩
      obtain ⟨m, rfl⟩ : ∃ q, m = q + 1 := ⟨m - 1, by omega⟩
      simp only [keysF, keysP]
      have e1 := hK k (by omega)
      simp only at e1
      rw [show ((2 : Nat) : Int) = 2 from rfl] at e1
      rw [e1]
      cases h1 : sgns (L p.f0) 2 2 with
      | false => simp
      | true =>
        simp only [Option.bind_some, if_true]
        rw [lowerF _ h.head]
        simp only [Option.bind_some]
        cases h2 : hasName ks (low p.f0) with
        | true => simp
        | false =>
          have h3 : ks.length = 64 := Classical.byContradiction fun h3 => hrec ⟨h1, h2, h3⟩
          simp [h3]
theorem keysP_len : ∀ (n : Nat) (ps : List Pc) (ks : List Ky), ks.length ≤ 64 → (keysP n ps ks).2.2.length ≤ 64
  | 0, ps, ks, hk => hk
  | n + 1, [], ks, hk => hk
  | n + 1, p :: ps, ks, hk => by
    simp only [keysP]
    split
    · split
      · exact hk
      · split
        · exact hk
        · exact keysP_len n _ _ (by simp; omega)
    · exact hk
end Go.Proofs.YtphjhbppjakocaaDoor.Pl
