/- What is printed is read as what it was: both Prints, the program's Parse, and the law TagBack; conditions: texts of at most 1048576 bytes, rows of at most 1048576 places. -/
import Derived.Test.YtphjhbppjakocaaGreatDoorPl3
import Derived.Test.YtphjhbppjakocaaGreatDoorPU17
import Derived.Test.YtphjhbppjakocaaGreatDoorChk4
import Derived.Test.YtphjhbppjakocaaGreatDoorPU15
import Derived.Test.YtphjhbppjakocaaGreatDoorPU19
import Derived.Test.YtphjhbppjakocaaGreatDoorPU14
import Derived.Test.YtphjhbppjakocaaGreatDoorPU20
import Derived.Test.YtphjhbppjakocaaGreatDoorPU16
import Derived.Test.YtphjhbppjakocaaGreatDoorPU18
import Derived.Test.YtphjhbppjakocaaGreatDoorPU22
import Derived.Test.YtphjhbppjakocaaGreatDoorPU23
namespace Go.Proofs.YtphjhbppjakocaaGreatDoor.Pl
open Go.RowKit Go.Proofs.YtphjhbppjakocaaGreatDoorW.PrintWords Go.Proofs.YtphjhbppjakocaaGreatDoor.PTag
set_option linter.unusedVariables false
abbrev Pc := S89
abbrev Ky := S39
def Sm (ps : List Pc) : Prop := ∀ p ∈ ps, p.f0.size ≤ 65536
theorem Sm.head {p : Pc} {ps : List Pc} (h : Sm (p :: ps)) : p.f0.size ≤ 65536 := h p (List.mem_cons_self ..)
theorem Sm.tail {p : Pc} {ps : List Pc} (h : Sm (p :: ps)) : Sm ps := fun q hq => h q (List.mem_cons_of_mem _ hq)
theorem Sm.nil : Sm [] := fun _ h => by cases h
theorem small_now {ps : List Pc} (h : Sm ps) : (nowT ps).size < 9223372036854775807 := by
  cases ps with
  | nil => show 0 < 9223372036854775807; omega
  | cons p ps => have := h.head; show p.f0.size < _; omega
theorem lowerF (s : ByteArray) (hs : s.size ≤ 65536) : tag_lower.f s = some (low s) := lower_f s (by omega)
def varsP : List Pc → List ByteArray → Int × List Pc × List ByteArray
  | [], vs => (0, [], vs)
  | p :: ps, vs => if vart (L p.f0) = true then (if Lib.containsS vs (low p.f0) = true then (6, p :: ps, vs) else if vs.length = 64 then (5, p :: ps, vs) else varsP ps (vs ++ [low p.f0])) else (0, p :: ps, vs)
theorem vart_nil : vart (L (⟨#[]⟩ : ByteArray)) = false := rfl
theorem vars_f : ∀ (ps : List Pc) (vs : List ByteArray), Sm ps → vs.length ≤ 64 → Ev (fun k => varsF k ps vs) (varsP ps vs)
  | [], vs, h, hv => by
    simp only [varsF, varsP]
    refine Ev.bind (variant_f ⟨#[]⟩ (by show 0 < 9223372036854775807; omega)) ?_
    rw [vart_nil]
    simpa using Ev.now _
  | p :: ps, vs, h, hv => by
    simp only [varsF, varsP]
    refine Ev.bind (variant_f p.f0 (by have := h.head; omega)) ?_
    cases hp : vart (L p.f0) with
    | false => simpa using Ev.now _
    | true =>
      simp only [if_true]
      rw [lowerF _ h.head]
      simp only [Option.bind_some]
      unfold slices_Contains_string_string.f
      rw [if_pos (by omega)]
      simp only [Option.bind_some]
      by_cases hm : Lib.containsS vs (low p.f0) = true
      · simp only [if_pos hm]; exact Ev.now _
      · simp only [if_neg hm]
        by_cases h64 : vs.length = 64
        · simp only [if_pos h64]; exact Ev.now _
        · simp only [if_neg h64, if_pos (show vs.length < 8796093022208 by omega)]
          exact vars_f ps _ h.tail (by simp; omega)
theorem varsP_len : ∀ (ps : List Pc) (vs : List ByteArray), vs.length ≤ 64 → (varsP ps vs).2.2.length ≤ 64
  | [], vs, hv => hv
  | p :: ps, vs, hv => by
    simp only [varsP]
    split
    · split
      · exact hv
      · split
        · exact hv
        · exact varsP_len ps _ (by simp; omega)
    · exact hv
theorem varsP_sm : ∀ (ps : List Pc) (vs : List ByteArray), Sm ps → Sm (varsP ps vs).2.1 ∧ (varsP ps vs).2.1.length ≤ ps.length
  | [], vs, h => ⟨h, Nat.le_refl _⟩
  | p :: ps, vs, h => by
    simp only [varsP]
    split
    · split
      · exact ⟨h, Nat.le_refl _⟩
      · split
        · exact ⟨h, Nat.le_refl _⟩
        · have := varsP_sm ps (vs ++ [low p.f0]) h.tail
          exact ⟨this.1, by rw [List.length_cons]; omega⟩
    · exact ⟨h, Nat.le_refl _⟩
def valsP : List Pc → List ByteArray → List Pc × List ByteArray
  | [], v => ([], v)
  | p :: ps, v => if sgns (L p.f0) 3 8 = true then valsP ps (v ++ [low p.f0]) else (p :: ps, v)
theorem vals_f : ∀ (ps : List Pc) (v : List ByteArray), Sm ps → v.length + ps.length < 8796093022208 → Ev (fun k => keyvF k ps v) (valsP ps v)
  | [], v, h, hv => by
    simp only [keyvF, valsP]
    refine Ev.bind (signs_f ⟨#[]⟩ 3 8 (by show 0 < 9223372036854775807; omega)) ?_
    rw [show sgns (L (⟨#[]⟩ : ByteArray)) 3 8 = false from rfl]
    simpa using Ev.now _
  | p :: ps, v, h, hv => by
    simp only [keyvF, valsP]
    refine Ev.bind (signs_f p.f0 3 8 (by have := h.head; omega)) ?_
    cases hp : sgns (L p.f0) 3 8 with
    | false => simpa using Ev.now _
    | true =>
      simp only [if_true]
      rw [lowerF _ h.head]
      simp only [Option.bind_some]
      rw [List.length_cons] at hv
      simp only [if_pos (show v.length < 8796093022208 by omega)]
      exact vals_f ps _ h.tail (by simp; omega)
theorem valsP_sm : ∀ (ps : List Pc) (v : List ByteArray), Sm ps → Sm (valsP ps v).1 ∧ (valsP ps v).1.length ≤ ps.length ∧ (valsP ps v).2.length ≤ v.length + ps.length
  | [], v, h => ⟨h, Nat.le_refl _, Nat.le_refl _⟩
  | p :: ps, v, h => by
    simp only [valsP]
    split
    · have := valsP_sm ps (v ++ [low p.f0]) h.tail
      simp only [List.length_append, List.length_cons, List.length_nil] at this ⊢
      exact ⟨this.1, by omega, by omega⟩
    · exact ⟨h, Nat.le_refl _, by simp only []; omega⟩
theorem valsP_le : ∀ (ps : List Pc) (v : List ByteArray), Sm ps → (∀ x ∈ v, x.size ≤ 65536) → ∀ x ∈ (valsP ps v).2, x.size ≤ 65536
  | [], v, h, hv => hv
  | p :: ps, v, h, hv => by
    simp only [valsP]
    split
    · refine valsP_le ps _ h.tail (fun x hx => ?_)
      rcases List.mem_append.1 hx with hx | hx
      · exact hv x hx
      · obtain rfl : x = low p.f0 := by simpa using hx
        rw [low_size]; exact h.head
    · exact hv
def joinD (v : List ByteArray) : ByteArray := S (Lib.join (v.map L) [45])
theorem joinD_len : ∀ (v : List ByteArray), (∀ x ∈ v, x.size ≤ 65536) → (Lib.join (v.map L) [45]).length ≤ v.length * 65537
  | [], _ => by simp [Lib.join]
  | [a], h => by
    have := h a (by simp)
    simp [Lib.join]; omega
  | a :: b :: r, h => by
    have ih := joinD_len (b :: r) (fun x hx => h x (List.mem_cons_of_mem _ hx))
    have ha := h a (by simp)
    have : Lib.join ((a :: b :: r).map L) [45] = L a ++ [45] ++ Lib.join ((b :: r).map L) [45] := by
      simp [Lib.join, List.intercalate]
    rw [this, List.length_append, List.length_append, L_len]
    simp only [List.length_cons, List.length_nil] at ih ⊢
    omega
theorem join_f (v : List ByteArray) (hv : ∀ x ∈ v, x.size ≤ 65536) (hl : v.length ≤ 65537) : strings_Join.f v ⟨#[45]⟩ = some (joinD v) := by
  have := joinD_len v hv
  have e : v.length * 65537 ≤ 65537 * 65537 := Nat.mul_le_mul_right _ hl
  unfold strings_Join.f
  rw [if_pos (by omega)]
  have e2 : (Lib.join (v.map (·.data.toList)) (⟨#[45]⟩ : ByteArray).data.toList) = Lib.join (v.map L) [45] := rfl
  rw [e2, if_pos (by omega)]
  rfl
def keysP : Nat → List Pc → List Ky → Int × List Pc × List Ky
  | 0, ps, ks => (0, ps, ks)
  | _ + 1, [], ks => (0, [], ks)
  | n + 1, p :: ps, ks => if sgns (L p.f0) 2 2 = true then (if hasName ks (low p.f0) = true then (6, p :: ps, ks) else if ks.length = 64 then (5, p :: ps, ks) else keysP n (valsP ps []).1 (ks ++ [⟨low p.f0, keptVal (joinD (valsP ps []).2)⟩])) else (0, p :: ps, ks)
theorem keys_f : ∀ (n : Nat) (ps : List Pc) (ks : List Ky), Sm ps → ps.length < n → ps.length ≤ 65537 → ks.length ≤ 64 → ∃ K, ∀ k, K ≤ k → ∀ m, n ≤ m → keysF k m ps ks = some (keysP n ps ks)
  | 0, ps, ks, h, hn, _, _ => by omega
  | n + 1, [], ks, h, hn, hp, hk => by
    obtain ⟨K, hK⟩ := signs_f ⟨#[]⟩ 2 2 (by show 0 < 9223372036854775807; omega)
    refine ⟨K, fun k hk m hm => ?_⟩
    obtain ⟨m, rfl⟩ : ∃ q, m = q + 1 := ⟨m - 1, by omega⟩
    simp only [keysF, keysP]
    have := hK k hk
    simp only at this
    rw [show ((2 : Nat) : Int) = 2 from rfl] at this
    rw [this]
    rfl
  | n + 1, p :: ps, ks, h, hn, hp, hk => by
    rw [List.length_cons] at hn hp
    obtain ⟨K, hK⟩ := signs_f p.f0 2 2 (by have := h.head; omega)
    have hvs := valsP_sm ps [] h.tail
    have hvl := valsP_le ps [] h.tail (by simp)
    obtain ⟨K2, hK2⟩ := vals_f ps [] h.tail (by simp; omega)
    by_cases hrec : sgns (L p.f0) 2 2 = true ∧ hasName ks (low p.f0) = false ∧ ks.length ≠ 64
    · obtain ⟨h1, h2, h3⟩ := hrec
      obtain ⟨K3, hK3⟩ := keys_f n (valsP ps []).1 (ks ++ [⟨low p.f0, keptVal (joinD (valsP ps []).2)⟩]) hvs.1 (by omega) (by omega) (by simp; omega)
      refine ⟨K + K2 + K3, fun k hk m hm => ?_⟩
      obtain ⟨m, rfl⟩ : ∃ q, m = q + 1 := ⟨m - 1, by omega⟩
      simp only [keysF, keysP]
      have e1 := hK k (by omega)
      have e2 := hK2 k (by omega)
      simp only at e1 e2
      rw [show ((2 : Nat) : Int) = 2 from rfl] at e1
      rw [e1, h1]
      simp only [Option.bind_some, if_true]
      rw [lowerF _ h.head]
      simp only [Option.bind_some, h2, Bool.false_eq_true, if_false, h3]
      rw [e2]
      simp only [Option.bind_some]
      rw [join_f _ hvl (by simp at hvs; omega)]
      simp only [Option.bind_some]
      rw [if_pos (by omega)]
      exact hK3 k (by omega) m (by omega)
    · refine ⟨K, fun k hk m hm => ?_⟩
      obtain ⟨m, rfl⟩ : ∃ q, m = q + 1 := ⟨m - 1, by omega⟩
      simp only [keysF, keysP]
      have e1 := hK k (by omega)
      simp only at e1
      rw [show ((2 : Nat) : Int) = 2 from rfl] at e1
      rw [e1]
      cases h1 : sgns (L p.f0) 2 2 with
      | false => simp
      | true =>
        simp only [Option.bind_some, if_true]
        rw [lowerF _ h.head]
        simp only [Option.bind_some]
        cases h2 : hasName ks (low p.f0) with
        | true => simp
        | false =>
          have h3 : ks.length = 64 := Classical.byContradiction fun h3 => hrec ⟨h1, h2, h3⟩
          simp [h3]
theorem keysP_len : ∀ (n : Nat) (ps : List Pc) (ks : List Ky), ks.length ≤ 64 → (keysP n ps ks).2.2.length ≤ 64
  | 0, ps, ks, hk => hk
  | n + 1, [], ks, hk => hk
  | n + 1, p :: ps, ks, hk => by
    simp only [keysP]
    split
    · split
      · exact hk
      · split
        · exact hk
        · exact keysP_len n _ _ (by simp; omega)
    · exact hk
end Go.Proofs.YtphjhbppjakocaaGreatDoor.Pl
namespace Go.Proofs.YtphjhbppjakocaaGreatDoor.Pl
open Go.RowKit Go.Proofs.YtphjhbppjakocaaGreatDoorW.PrintWords Go.Proofs.YtphjhbppjakocaaGreatDoor.PTag
set_option linter.unusedVariables false
abbrev E : ByteArray := ⟨#[]⟩
abbrev Hd := Bool × List Pc × ByteArray × ByteArray × ByteArray
def headRP (ps : List Pc) (l s : ByteArray) : Hd := if regn (L (nowT ps)) = true then (true, ps.tail, l, s, upp (nowT ps)) else (true, ps, l, s, E)
def headSP (ps : List Pc) (l : ByteArray) : Hd := if lets (L (nowT ps)) 4 4 = true then headRP ps.tail l (titl (nowT ps)) else headRP ps l E
def headP (ps : List Pc) : Hd := if lets (L (nowT ps)) 2 3 = true then headSP ps.tail (keptLang (low (nowT ps))) else (false, ps, E, E, E)
theorem Sm.tl {ps : List Pc} (h : Sm ps) : Sm ps.tail := by
  cases ps with
  | nil => exact h
  | cons p ps => exact h.tail
theorem lets_pos {l : Bs} {lo hi : Nat} (h : lets l lo hi = true) : lo ≤ l.length ∧ l.length ≤ hi := by
  unfold lets at h; simp only [Bool.and_eq_true, decide_eq_true_eq] at h; exact h.2
theorem sgns_pos {l : Bs} {lo hi : Nat} (h : sgns l lo hi = true) : lo ≤ l.length ∧ l.length ≤ hi := by
  unfold sgns at h; simp only [Bool.and_eq_true, decide_eq_true_eq] at h; exact h.2
theorem headR_f (ps : List Pc) (l s : ByteArray) (h : Sm ps) : Ev (fun k => headR k ps l s) (headRP ps l s) := by
  unfold headR headRP
  refine Ev.bind (region_f (nowT ps) (small_now h)) ?_
  cases hr : regn (L (nowT ps)) with
  | false => simpa using Ev.now _
  | true =>
    cases ps with
    | nil => exact absurd hr (by decide)
    | cons q pt =>
      simp only [if_true]
      rw [upper_f _ (by have := h.head; omega)]
      exact Ev.now _
theorem headS_f (ps : List Pc) (l : ByteArray) (h : Sm ps) : Ev (fun k => headS k ps l) (headSP ps l) := by
  unfold headS headSP
  refine Ev.bind (letters_f (nowT ps) 4 4 (small_now h)) ?_
  cases hr : lets (L (nowT ps)) 4 4 with
  | false => simpa using headR_f ps l E h
  | true =>
    cases ps with
    | nil => exact absurd hr (by decide)
    | cons q pt =>
      have hl : 4 ≤ q.f0.size := by have := (lets_pos hr).1; rw [L_len] at this; exact this
      simp only [if_true]
      rw [title_f _ (by have := h.head; omega) (by omega)]
      exact headR_f pt l (titl q.f0) h.tail
theorem head_f (ps : List Pc) (h : Sm ps) : Ev (fun k => headF k ps) (headP ps) := by
  unfold headF headP
  refine Ev.bind (letters_f (nowT ps) 2 3 (small_now h)) ?_
  cases hr : lets (L (nowT ps)) 2 3 with
  | false => simpa using Ev.now _
  | true =>
    cases ps with
    | nil => exact absurd hr (by decide)
    | cons q pt =>
      simp only [if_true]
      rw [lowerF _ h.head]
      exact headS_f pt _ h.tail
theorem headP_sm (ps : List Pc) (h : Sm ps) : Sm (headP ps).2.1 ∧ (headP ps).2.1.length ≤ ps.length := by
  have hr : ∀ (qs : List Pc) (l s : ByteArray), Sm qs → Sm (headRP qs l s).2.1 ∧ (headRP qs l s).2.1.length ≤ qs.length := by
    intro qs l s hq
    unfold headRP
    split
    · exact ⟨hq.tl, by simp only [List.length_tail]; omega⟩
    · exact ⟨hq, Nat.le_refl _⟩
  have hs : ∀ (qs : List Pc) (l : ByteArray), Sm qs → Sm (headSP qs l).2.1 ∧ (headSP qs l).2.1.length ≤ qs.length := by
    intro qs l hq
    unfold headSP
    split
    · have := hr qs.tail l (titl (nowT qs)) hq.tl
      rw [List.length_tail] at this
      exact ⟨this.1, by omega⟩
    · exact hr _ _ _ hq
  unfold headP
  split
  · have := hs ps.tail (keptLang (low (nowT ps))) h.tl
    rw [List.length_tail] at this
    exact ⟨this.1, by omega⟩
  · exact ⟨h, Nat.le_refl _⟩
def readUP (en : Int) (rest : List Pc) (l s r : ByteArray) (vs : List ByteArray) : ReadRes := match rest with
  | [] => (0, 0, some (l, s, r, vs, []))
  | p :: pt => if (low p.f0).toList = [117] then (if (keysP (pt.length + 1) pt []).1 = 0 then (if (keysP (pt.length + 1) pt []).2.2.length = 0 then (nowAt en (keysP (pt.length + 1) pt []).2.1, 70, none) else readEnd en (keysP (pt.length + 1) pt []).2.1 (l, s, r, vs, (keysP (pt.length + 1) pt []).2.2)) else (nowAt en (keysP (pt.length + 1) pt []).2.1, (keysP (pt.length + 1) pt []).1, none)) else (p.f1, 70, none)
def readP (ps : List Pc) (en : Int) : ReadRes :=
  if (headP ps).1 = true then (if (varsP (headP ps).2.1 []).1 = 0 then readUP en (varsP (headP ps).2.1 []).2.1 (headP ps).2.2.1 (headP ps).2.2.2.1 (headP ps).2.2.2.2 (varsP (headP ps).2.1 []).2.2 else (nowAt en (varsP (headP ps).2.1 []).2.1, (varsP (headP ps).2.1 []).1, none)) else (nowAt en (headP ps).2.1, 70, none)
theorem readU_f (en : Int) (rest : List Pc) (l s r : ByteArray) (vs : List ByteArray) (h : Sm rest) (hl : rest.length ≤ 65537) : Ev (fun k => readU k k en rest l s r vs) (readUP en rest l s r vs) := by
  cases rest with
  | nil => exact Ev.now _
  | cons p pt =>
    simp only [readU, readUP]
    rw [lowerF _ h.head]
    simp only [Option.bind_some]
    by_cases hu : (low p.f0).toList = [117]
    · simp only [if_pos hu]
      rw [List.length_cons] at hl
      obtain ⟨K, hK⟩ := keys_f (pt.length + 1) pt [] h.tail (by omega) (by omega) (by simp)
      refine ⟨K + pt.length + 1, fun k hk => ?_⟩
      show (keysF k k pt []).bind _ = _
      rw [hK k (by omega) k (by omega)]
      simp only [Option.bind_some]
      by_cases h0 : (keysP (pt.length + 1) pt []).1 = 0
      · rw [if_pos h0, if_pos h0]
        by_cases h1 : (keysP (pt.length + 1) pt []).2.2.length = 0
        · rw [if_pos h1, if_pos h1]
        · rw [if_neg h1, if_neg h1]
      · rw [if_neg h0, if_neg h0]
    · simp only [if_neg hu]; exact Ev.now _
theorem read_f (ps : List Pc) (en : Int) (h : Sm ps) (hl : ps.length ≤ 65537) : Ev (fun k => readF k k ps en) (readP ps en) := by
  have hh := headP_sm ps h
  have hv := varsP_sm (headP ps).2.1 [] hh.1
  unfold readF readP
  refine Ev.bind (head_f ps h) ?_
  by_cases hb : (headP ps).1 = true
  · simp only [if_pos hb]
    refine Ev.bind (vars_f _ [] hh.1 (by simp)) ?_
    by_cases h0 : (varsP (headP ps).2.1 []).1 = 0
    · simp only [if_pos h0]
      exact readU_f en _ _ _ _ _ hv.1 (by omega)
    · simp only [if_neg h0]; exact Ev.now _
  · simp only [if_neg hb]; exact Ev.now _
theorem readP_len (ps : List Pc) (en : Int) : ∀ t, (readP ps en).2.2 = some t → t.2.2.2.1.length ≤ 64 ∧ t.2.2.2.2.length ≤ 64 := by
  intro t ht
  have hv := varsP_len (headP ps).2.1 [] (by simp)
  unfold readP at ht
  by_cases hb : (headP ps).1 = true
  · rw [if_pos hb] at ht
    by_cases h0 : (varsP (headP ps).2.1 []).1 = 0
    · rw [if_pos h0] at ht
      unfold readUP at ht
      split at ht
      · obtain rfl := Option.some.inj ht
        exact ⟨hv, by simp⟩
      · rename_i p pt _
        have hk := keysP_len (pt.length + 1) pt [] (by simp)
        by_cases hu : (low p.f0).toList = [117]
        · rw [if_pos hu] at ht
          by_cases h1 : (keysP (pt.length + 1) pt []).1 = 0
          · rw [if_pos h1] at ht
            by_cases h2 : (keysP (pt.length + 1) pt []).2.2.length = 0
            · rw [if_pos h2] at ht; cases ht
            · rw [if_neg h2] at ht
              unfold readEnd at ht
              split at ht
              · obtain rfl := Option.some.inj ht
                exact ⟨hv, hk⟩
              · cases ht
          · rw [if_neg h1] at ht; cases ht
        · rw [if_neg hu] at ht; cases ht
    · rw [if_neg h0] at ht; cases ht
  · rw [if_neg hb] at ht; cases ht
abbrev PRes := ByteArray × ByteArray × ByteArray × List ByteArray × List Ky × Int × Int
def parseP (s : ByteArray) : PRes := if s.size > 65536 then (E, E, E, [], [], 0, 2) else if (low s).toList = [114, 111, 111, 116] then (E, E, E, [], [], 0, 0) else parseRes (readP (pieces s) (s.size : Int))
theorem pieces_sm (s : ByteArray) (hs : s.size ≤ 65536) : Sm (pieces s) ∧ (pieces s).length ≤ 65537 := by
  refine ⟨fun p hp => Nat.le_trans (pcs_small s _ _ _ p hp) hs, ?_⟩
  have := pcs_len s s.size 0 0
  unfold pieces; omega
theorem parse_f (s : ByteArray) : Ev (fun k => tag_Parse.f k s) (parseP s) := by
  unfold tag_Parse.f parseP
  by_cases h1 : s.size > 65536
  · simp only [if_pos h1]; exact Ev.now _
  · simp only [if_neg h1]
    rw [lowerF _ (by omega)]
    simp only [Option.bind_some]
    by_cases h2 : (low s).toList = [114, 111, 111, 116]
    · simp only [if_pos h2]; exact Ev.now _
    · simp only [if_neg h2]
      have hp := pieces_sm s (by omega)
      refine Ev.bind (split_f s (by omega)) ?_
      simp only [if_pos (show (pieces s).length < 4611686018427387904 by omega)]
      refine Ev.bind (read_f _ _ hp.1 hp.2) ?_
      have hlen := readP_len (pieces s) (s.size : Int)
      refine Ev.bind (a := ()) ?_ (Ev.now _)
      cases hr : (readP (pieces s) (s.size : Int)).2.2 with
      | none => exact Ev.now _
      | some t =>
        have := hlen t hr
        simp only [if_pos (show t.2.2.2.1.length < 4611686018427387904 ∧ t.2.2.2.2.length < 4611686018427387904 by omega)]
        exact Ev.now _
end Go.Proofs.YtphjhbppjakocaaGreatDoor.Pl
namespace Go.Proofs.YtphjhbppjakocaaGreatDoor.Pl
open Go.RowKit Go.Proofs.YtphjhbppjakocaaGreatDoorW.PrintWords Go.Proofs.YtphjhbppjakocaaGreatDoor.PTag
set_option linter.unusedVariables false
def ins {α : Type} (lt : α → α → Bool) (x : α) : List α → List α
  | [] => [x]
  | y :: ys => if lt x y = true then x :: y :: ys else y :: ins lt x ys
def isrt {α : Type} (lt : α → α → Bool) (l : List α) : List α := l.foldl (fun a x => ins lt x a) []
theorem isrt_snoc {α : Type} (lt : α → α → Bool) (l : List α) (x : α) : isrt lt (l ++ [x]) = ins lt x (isrt lt l) := by
  unfold isrt; rw [List.foldl_append]; rfl
theorem ins_perm {α : Type} (lt : α → α → Bool) (x : α) : ∀ l, (ins lt x l).Perm (x :: l)
  | [] => List.Perm.refl _
  | y :: ys => by
    unfold ins
    by_cases h : lt x y = true
    · rw [if_pos h]
    · rw [if_neg h]; exact ((ins_perm lt x ys).cons y).trans (List.Perm.swap x y ys)
theorem foldl_perm {α : Type} (lt : α → α → Bool) : ∀ (l a : List α), (l.foldl (fun a x => ins lt x a) a).Perm (a ++ l)
  | [], a => by simp
  | x :: l, a => by
    refine (foldl_perm lt l (ins lt x a)).trans ?_
    refine ((ins_perm lt x a).append_right l).trans ?_
    exact (List.perm_middle).symm
theorem isrt_perm {α : Type} (lt : α → α → Bool) (l : List α) : (isrt lt l).Perm l := foldl_perm lt l []
theorem isrt_len {α : Type} (lt : α → α → Bool) (l : List α) : (isrt lt l).length = l.length := (isrt_perm lt l).length_eq
theorem isrt_mem {α : Type} (lt : α → α → Bool) (l : List α) (x : α) : x ∈ isrt lt l ↔ x ∈ l := (isrt_perm lt l).mem_iff
abbrev Asc {α : Type} (lt : α → α → Bool) (l : List α) : Prop := l.Pairwise fun a b => lt b a = false
theorem asymm_ {α : Type} {lt : α → α → Bool} (h : Go.Sort.SWO lt) {x y : α} (hxy : lt x y = true) : lt y x = false := by
  cases hyx : lt y x with
  | false => rfl
  | true => have := h.trans _ _ _ hxy hyx; rw [h.irrefl] at this; cases this
theorem ins_asc {α : Type} {lt : α → α → Bool} (h : Go.Sort.SWO lt) (x : α) : ∀ l, Asc lt l → Asc lt (ins lt x l)
  | [], _ => by simp [ins]
  | y :: ys, hl => by
    unfold ins
    obtain ⟨h1, h2⟩ := List.pairwise_cons.1 hl
    by_cases hxy : lt x y = true
    · rw [if_pos hxy]
      refine List.pairwise_cons.2 ⟨fun z hz => ?_, hl⟩
      rcases List.mem_cons.1 hz with rfl | hz
      · exact asymm_ h hxy
      · exact h.ntrans _ _ _ (h1 z hz) (asymm_ h hxy)
    · rw [if_neg hxy]
      refine List.pairwise_cons.2 ⟨fun z hz => ?_, ins_asc h x ys h2⟩
      rcases List.mem_cons.1 ((ins_perm lt x ys).mem_iff.1 hz) with rfl | hz
      · simpa using hxy
      · exact h1 z hz
theorem isrt_asc {α : Type} {lt : α → α → Bool} (h : Go.Sort.SWO lt) (l : List α) : Asc lt (isrt lt l) := by
  unfold isrt
  suffices ∀ (l a : List α), Asc lt a → Asc lt (l.foldl (fun a x => ins lt x a) a) from this l [] List.Pairwise.nil
  intro l
  induction l with
  | nil => exact fun a ha => ha
  | cons x l ih => exact fun a ha => ih _ (ins_asc h x a ha)
/-! Texts. -/
theorem bless_ : ∀ (x y : Bs), Op.bytesLess x y = decide (x < y)
  | [], [] => by simp [Op.bytesLess]
  | _ :: _, [] => by simp [Op.bytesLess]
  | [], _ :: _ => by simp [Op.bytesLess]
  | a :: x, b :: y => by
    simp only [Op.bytesLess, bless_ x y, List.cons_lt_cons_iff]
    by_cases h1 : a < b
    · simp [h1]
    · by_cases h2 : a = b
      · subst h2; simp
      · simp [h1, h2]
def ltT (x y : ByteArray) : Bool := Op.bytesLess x.toList y.toList
theorem ltT_eq (x y : ByteArray) : ltT x y = decide (L x < L y) := by unfold ltT; rw [bless_, toList_L, toList_L]
theorem swoT : Go.Sort.SWO ltT where
  irrefl x := by rw [ltT_eq]; simp
  trans x y z h1 h2 := by
    rw [ltT_eq] at *
    simp only [decide_eq_true_eq] at *
    exact List.lt_trans h1 h2
  ntrans x y z h1 h2 := by
    rw [ltT_eq] at *
    simp only [decide_eq_false_iff_not] at *
    exact List.not_lt.2 (List.le_trans (List.not_lt.1 h2) (List.not_lt.1 h1))
theorem isrt_texts (vs : List ByteArray) : isrt ltT vs = sortTexts vs := by
  refine List.Perm.eq_of_pairwise (le := fun a b => ltT b a = false) ?_ (isrt_asc swoT vs) ?_ ?_
  · intro a b _ _ h1 h2
    simp only [ltT_eq, decide_eq_false_iff_not] at h1 h2
    exact L_inj (List.le_antisymm (List.not_lt.1 h1) (List.not_lt.1 h2))
  · unfold sortTexts
    rw [List.pairwise_map]
    have := List.pairwise_mergeSort (le := fun (x y : Bs) => decide (x ≤ y)) (fun a b c h1 h2 => by
      simp only [decide_eq_true_eq] at *; exact List.le_trans h1 h2) (fun a b => by
      simp only [Bool.or_eq_true, decide_eq_true_eq]; exact List.le_total a b) (vs.map (·.data.toList))
    refine this.imp (fun {a b} h => ?_)
    rw [ltT_eq]
    simp only [decide_eq_true_eq] at h
    simp only [decide_eq_false_iff_not]
    exact List.not_lt.2 h
  · refine (isrt_perm ltT vs).trans ?_
    unfold sortTexts
    have := ((List.mergeSort_perm (vs.map (·.data.toList)) fun x y => decide (x ≤ y)).map fun l => (⟨l.toArray⟩ : ByteArray)).symm
    rw [List.map_map] at this
    have e : vs.map ((fun l : List UInt8 => (⟨l.toArray⟩ : ByteArray)) ∘ fun x : ByteArray => x.data.toList) = vs := by
      refine (List.map_congr_left (fun x _ => ?_)).trans (List.map_id vs)
      exact SL x
    rw [e] at this
    exact this
/-! Keys. -/
def ltK (x y : Ky) : Bool := Op.bytesLess x.f0.toList y.f0.toList
theorem ltK_eq (x y : Ky) : ltK x y = ltOf keyCmp x y := by unfold ltK; rw [bless_, keyLt, toList_L, toList_L]
theorem ltK_fun : ltK = ltOf keyCmp := by funext x y; exact ltK_eq x y
/-- No name twice. -/
def Nm1 (ks : List Ky) : Prop := ks.Pairwise fun a b => a.f0 ≠ b.f0
theorem nm1_eq {ks : List Ky} (h : Nm1 ks) {a b : Ky} (ha : a ∈ ks) (hb : b ∈ ks) (e : a.f0 = b.f0) : a = b := by
  induction ks with
  | nil => cases ha
  | cons k ks ih =>
    obtain ⟨h1, h2⟩ := List.pairwise_cons.1 h
    rcases List.mem_cons.1 ha with ea | ha2 <;> rcases List.mem_cons.1 hb with eb | hb2
    · rw [ea, eb]
    · rw [ea] at e; exact absurd e (h1 b hb2)
    · rw [eb] at e; exact absurd e.symm (h1 a ha2)
    · exact ih h2 ha2 hb2
theorem sortKeys_perm (ks : List Ky) : (sortKeys ks).Perm ks := by
  have h := (Go.Sort.pdq_sorts (ltOf keyCmp) keySWO ks.toArray 0 ks.length (Lib.bitLen ks.length) true true (Nat.zero_le _) (by simp) (Or.inl rfl)).1
  have h1 := h.1
  have h2 := h.2.2
  unfold sortKeys
  rw [Array.extract_eq_self_of_le (by simp [h1]), Array.extract_eq_self_of_le (by simp)] at h2
  simpa using h2
theorem sortKeys_asc (ks : List Ky) : Asc (ltOf keyCmp) (sortKeys ks) := by
  have hh := Go.Sort.pdq_sorts (ltOf keyCmp) keySWO ks.toArray 0 ks.length (Lib.bitLen ks.length) true true (Nat.zero_le _) (by simp) (Or.inl rfl)
  have h := hh.2
  have hs := hh.1.1
  unfold sortKeys
  refine List.pairwise_iff_getElem.2 (fun i j hi hj hij => ?_)
  have := h i j (Nat.zero_le _) hij (by simpa [hs] using hj)
  have hi' : i < (Go.Sort.pdq (ltOf keyCmp) ks.toArray 0 ks.length (Lib.bitLen ks.length) true true).size := by simpa using hi
  have hj' : j < (Go.Sort.pdq (ltOf keyCmp) ks.toArray 0 ks.length (Lib.bitLen ks.length) true true).size := by simpa using hj
  rw [getElem!_pos (Go.Sort.pdq (ltOf keyCmp) ks.toArray 0 ks.length (Lib.bitLen ks.length) true true) i hi', getElem!_pos (Go.Sort.pdq (ltOf keyCmp) ks.toArray 0 ks.length (Lib.bitLen ks.length) true true) j hj'] at this
  simpa using this
theorem isrt_keys (ks : List Ky) (hk : Nm1 ks) : isrt ltK ks = sortKeys ks := by
  rw [ltK_fun]
  refine List.Perm.eq_of_pairwise (le := fun a b => ltOf keyCmp b a = false) ?_ (isrt_asc keySWO ks) (sortKeys_asc ks) ((isrt_perm _ ks).trans (sortKeys_perm ks).symm)
  intro a b ha hb h1 h2
  rw [isrt_mem] at ha
  have hb := (sortKeys_perm ks).mem_iff.1 hb
  simp only [keyLt, decide_eq_false_iff_not] at h1 h2
  exact nm1_eq hk ha hb (L_inj (List.le_antisymm (List.not_lt.1 h1) (List.not_lt.1 h2)))
end Go.Proofs.YtphjhbppjakocaaGreatDoor.Pl
namespace Go.Proofs.YtphjhbppjakocaaGreatDoor.Pl
open Go.RowKit Go.Proofs.YtphjhbppjakocaaGreatDoorW.PrintWords Go.Proofs.YtphjhbppjakocaaGreatDoor.PTag
set_option linter.unusedVariables false
theorem L_app (a b : ByteArray) : L (a ++ b) = L a ++ L b := by simp [L]
def joinT (v : List ByteArray) : ByteArray := S (Lib.join (v.map L) [45])
theorem joinT_lenB : ∀ (v : List ByteArray), (∀ x ∈ v, x.size ≤ 1048576) → (Lib.join (v.map L) [45]).length ≤ v.length * 1048577
  | [], _ => by simp [Lib.join]
  | [a], h => by
    have := h a (by simp)
    simp [Lib.join]; omega
  | a :: b :: r, h => by
    have ih := joinT_lenB (b :: r) (fun x hx => h x (List.mem_cons_of_mem _ hx))
    have ha := h a (by simp)
    have : Lib.join ((a :: b :: r).map L) [45] = L a ++ [45] ++ Lib.join ((b :: r).map L) [45] := by
      simp [Lib.join, List.intercalate]
    rw [this, List.length_append, List.length_append, L_len]
    simp only [List.length_cons, List.length_nil] at ih ⊢
    omega
def Bd (n : Nat) (ps : List ByteArray) : Prop := ps.length ≤ n ∧ ∀ x ∈ ps, x.size ≤ 1048576
theorem Bd.app {n : Nat} {ps : List ByteArray} (h : Bd n ps) {x : ByteArray} (hx : x.size ≤ 1048576) : Bd (n + 1) (ps ++ [x]) := ⟨by rw [List.length_append]; have := h.1; simp; omega, fun y hy => by
  rcases List.mem_append.1 hy with h1 | h1
  · exact h.2 y h1
  · obtain rfl := List.mem_singleton.1 h1; exact hx⟩
theorem Bd.le {n m : Nat} {ps : List ByteArray} (h : Bd n ps) (hm : n ≤ m) : Bd m ps := ⟨Nat.le_trans h.1 hm, h.2⟩
theorem joinT_size {n : Nat} {ps : List ByteArray} (h : Bd n ps) (hn : n ≤ 1000) : (joinT ps).size ≤ 1048577000 := by
  unfold joinT
  rw [S_size]
  have := joinT_lenB ps h.2
  have h1 : ps.length * 1048577 ≤ 1000 * 1048577 := Nat.mul_le_mul_right _ (Nat.le_trans h.1 hn)
  omega
theorem join_fB (v : List ByteArray) {n : Nat} (h : Bd n v) (hn : n ≤ 1000) : strings_Join.f v ⟨#[45]⟩ = some (joinT v) := by
  have h0 := h.1
  have := joinT_lenB v h.2
  have h1 : v.length * 1048577 ≤ 1000 * 1048577 := Nat.mul_le_mul_right _ (Nat.le_trans h.1 hn)
  unfold strings_Join.f
  rw [if_pos (by omega)]
  have e2 : (Lib.join (v.map (·.data.toList)) (⟨#[45]⟩ : ByteArray).data.toList) = Lib.join (v.map L) [45] := rfl
  rw [e2, if_pos (by omega)]; rfl
theorem joinT_app {ps : List ByteArray} (h : ps ≠ []) (x : ByteArray) : joinT (ps ++ [x]) = joinT ps ++ (⟨#[45]⟩ : ByteArray) ++ x := by
  apply L_inj
  rw [L_app, L_app]
  unfold joinT
  rw [LS, LS]
  cases ps with
  | nil => exact absurd rfl h
  | cons a r =>
    rw [List.cons_append, List.map_cons, List.map_cons, Lib.join_cons, Lib.join_cons, List.map_append]
    simp [Lib.joinTail, L]
def UND : ByteArray := ⟨#[117, 110, 100]⟩
def UU : ByteArray := ⟨#[117]⟩
def nonE (x : ByteArray) : List ByteArray := if L x = [] then [] else [x]
def flatK : List Ke → List ByteArray
  | [] => []
  | x :: ks => (x.f0 :: nonE x.f1) ++ flatK ks
def langT (l : ByteArray) : ByteArray := if L l = [] then UND else l
def uK (K : List Ke) : List ByteArray := if K.length > 0 then [UU] else []
def parts (l s r : ByteArray) (V : List ByteArray) (K : List Ke) : List ByteArray := ([langT l] ++ nonE s ++ nonE r ++ V ++ uK K) ++ flatK K
theorem nonE_none {x : ByteArray} (h : L x = []) : nonE x = [] := if_pos h
theorem nonE_some {x : ByteArray} (h : ¬ L x = []) : nonE x = [x] := if_neg h
theorem tt_l0 (K : List Ke) (hK : K.length ≤ 64) (hz : ∀ x ∈ K, x.f0.size ≤ 1048576 ∧ x.f1.size ≤ 1048576) : ∀ (ys : List Ke) (i : Nat) (ps : List ByteArray), K.drop i = ys → i ≤ K.length → Bd (100 + 2 * i) ps →
    Ev (fun k => tag_text.l0 k ps K (K.length : Int) (i : Int)) (joinT (ps ++ flatK ys))
  | [], i, ps, h, hi, hb => by
    have hi2 : K.length ≤ i := List.drop_eq_nil_iff.1 h
    refine Ev.step (f := fun _ => some (joinT ps)) (fun k => ?_) (by simpa [flatK] using Ev.now _)
    simp only [tag_text.l0]
    rw [if_neg (by omega), join_fB ps hb (by omega)]; rfl
  | x :: ys, i, ps, h, hi, hb => by
    obtain ⟨hi2, hx, hn⟩ := drop_cons h
    have hq := hz x (List.mem_of_getElem? hx)
    have hw : wrap64 ((i : Int) + 1) = ((i + 1 : Nat) : Int) := w64 (by omega)
    have b1 : Bd (101 + 2 * i) (ps ++ [x.f0]) := (hb.app hq.1).le (by omega)
    have l1 := hb.1
    have l2 := b1.1
    unfold flatK
    by_cases h0 : L x.f1 = []
    · have h0' : x.f1.toList = [] := by rw [toList_L]; exact h0
      have ih := tt_l0 K hK hz ys (i + 1) (ps ++ [x.f0]) hn (by omega) (b1.le (by omega))
      rw [nonE_none h0]
      rw [List.append_assoc] at ih
      refine Ev.step (fun k => ?_) ih
      simp only [tag_text.l0]
      rw [if_pos (by omega), if_pos (by omega), if_pos (by omega), if_pos (by omega), rdK_c hx]
      simp only [Option.bind_some]
      rw [if_pos h0', hw]
    · have h0' : ¬ x.f1.toList = [] := by rw [toList_L]; exact h0
      have ih := tt_l0 K hK hz ys (i + 1) (ps ++ [x.f0] ++ [x.f1]) hn (by omega) ((b1.app hq.2).le (by omega))
      rw [nonE_some h0]
      have e : ps ++ [x.f0] ++ [x.f1] ++ flatK ys = ps ++ (x.f0 :: [x.f1] ++ flatK ys) := by simp
      rw [e] at ih
      refine Ev.step (fun k => ?_) ih
      simp only [tag_text.l0]
      rw [if_pos (by omega), if_pos (by omega), if_pos (by omega), if_pos (by omega), rdK_c hx]
      simp only [Option.bind_some]
      rw [if_neg h0', if_pos (by omega), hw]
theorem text_f {l s r : ByteArray} {V : List ByteArray} {K : List Ke} (z : Sz l s r V K) (hV : V.length ≤ 64) (hK : K.length ≤ 64) : Ev (fun k => tag_text.f k l s r V K) (joinT (parts l s r V K)) := by
  have t3 : ∀ ps, Bd 100 ps → Ev (fun k => tag_text.j3 k ps l s r V K) (joinT (ps ++ flatK K)) := fun ps hb =>
    Ev.step (f := fun k => tag_text.l0 k ps K (K.length : Int) 0) (fun k => by simp only [tag_text.j3]) (tt_l0 K hK z.vK K 0 ps rfl (by omega) hb)
  have t2 : ∀ ps, Bd 3 ps → Ev (fun k => tag_text.j2 k ps l s r V K) (joinT ((ps ++ V ++ uK K) ++ flatK K)) := by
    intro ps hb
    have hl := hb.1
    have b1 : Bd 67 (ps ++ V) := ⟨by rw [List.length_append]; omega, fun x hx => by
      rcases List.mem_append.1 hx with h1 | h1
      · exact hb.2 x h1
      · exact z.vV x h1⟩
    have hl1 := b1.1
    unfold uK
    by_cases h0 : K.length > 0
    · rw [if_pos h0]
      refine Ev.step (fun k => ?_) (t3 _ ((b1.app (x := UU) (by decide)).le (by omega)))
      simp only [tag_text.j2]
      rw [if_pos (by omega)]
      simp only [Option.bind_some]
      rw [if_pos (by omega), if_pos (by omega)]; rfl
    · rw [if_neg h0, List.append_nil]
      refine Ev.step (fun k => ?_) (t3 _ (b1.le (by omega)))
      simp only [tag_text.j2]
      rw [if_pos (by omega)]
      simp only [Option.bind_some]
      rw [if_neg (by omega)]
  have t1 : ∀ ps, Bd 2 ps → Ev (fun k => tag_text.j1 k ps l s r V K) (joinT ((ps ++ nonE r ++ V ++ uK K) ++ flatK K)) := by
    intro ps hb
    have hl := hb.1
    by_cases h0 : L r = []
    · have h0' : r.toList = [] := by rw [toList_L]; exact h0
      rw [nonE_none h0, List.append_nil]
      refine Ev.step (fun k => ?_) (t2 ps (hb.le (by omega)))
      simp only [tag_text.j1]
      rw [if_pos h0']
    · have h0' : ¬ r.toList = [] := by rw [toList_L]; exact h0
      rw [nonE_some h0]
      refine Ev.step (fun k => ?_) (t2 _ (hb.app z.r))
      simp only [tag_text.j1]
      rw [if_neg h0', if_pos (by omega)]
  have t0 : ∀ ps, Bd 1 ps → Ev (fun k => tag_text.j0 k ps l s r V K) (joinT ((ps ++ nonE s ++ nonE r ++ V ++ uK K) ++ flatK K)) := by
    intro ps hb
    have hl := hb.1
    by_cases h0 : L s = []
    · have h0' : s.toList = [] := by rw [toList_L]; exact h0
      rw [nonE_none h0, List.append_nil]
      refine Ev.step (fun k => ?_) (t1 ps (hb.le (by omega)))
      simp only [tag_text.j0]
      rw [if_pos h0']
    · have h0' : ¬ s.toList = [] := by rw [toList_L]; exact h0
      rw [nonE_some h0]
      refine Ev.step (fun k => ?_) (t1 _ (hb.app z.s))
      simp only [tag_text.j0]
      rw [if_neg h0', if_pos (by omega)]
  have b0 : ∀ x : ByteArray, x.size ≤ 1048576 → Bd 1 [x] := fun x hx => ⟨by simp, fun y hy => by obtain rfl := List.mem_singleton.1 hy; exact hx⟩
  unfold tag_text.f parts langT
  simp only [Option.bind_some]
  by_cases h0 : L l = []
  · have h0' : l.toList = [] := by rw [toList_L]; exact h0
    rw [if_pos h0]
    simp only [if_pos h0', if_pos (show (0 : Int) < (([l] : List ByteArray).length : Int) by simp)]
    exact t0 [UND] (b0 UND (by decide))
  · have h0' : ¬ l.toList = [] := by rw [toList_L]; exact h0
    rw [if_neg h0]
    simp only [if_neg h0']
    exact t0 [l] (b0 l z.l)
end Go.Proofs.YtphjhbppjakocaaGreatDoor.Pl
namespace Go.Proofs.YtphjhbppjakocaaGreatDoor.Pl
open Go.RowKit Go.Proofs.YtphjhbppjakocaaGreatDoorW.PrintWords Go.Proofs.YtphjhbppjakocaaGreatDoor.PTag
set_option linter.unusedVariables false
theorem app_ne {ps : List ByteArray} {x : ByteArray} : ps ++ [x] ≠ [] := by simp
theorem sz_app (a b : ByteArray) : (a ++ b).size = a.size + b.size := by simp
theorem du (a : ByteArray) : a ++ (⟨#[45, 117]⟩ : ByteArray) = a ++ (⟨#[45]⟩ : ByteArray) ++ UU := by
  apply L_inj; rw [L_app, L_app, L_app]; simp [L, UU]
section
variable {l s r : ByteArray} {V : List ByteArray} {K : List Ke} (z : Sz l s r V K) (hK : K.length ≤ 64)
include z hK
theorem rt_l1 : ∀ (ys : List Ke) (i : Nat) (ps : List ByteArray), K.drop i = ys → i ≤ K.length → Bd (100 + 3 * i) ps → ps ≠ [] → (i = 0 → ys = K) →
    Ev (fun k => idiomref07_text.l1 k (joinT ps) (i : Int) l s r V K) (joinT ((if i = 0 then ps ++ uK K else ps) ++ flatK ys))
  | [], i, ps, h, hi, hb, hne, h00 => by
    have hi2 : K.length ≤ i := List.drop_eq_nil_iff.1 h
    have e : (if i = 0 then ps ++ uK K else ps) = ps := by
      split
      · rename_i h1
        have : K = [] := (h00 h1).symm
        subst this
        simp [uK]
      · rfl
    rw [e]
    refine Ev.step (f := fun _ => some (joinT ps)) (fun k => ?_) (by simpa [flatK] using Ev.now _)
    simp only [idiomref07_text.l1]
    rw [if_neg (by omega)]
  | x :: ys, i, ps, h, hi, hb, hne, h00 => by
    obtain ⟨hi2, hx, hn⟩ := drop_cons h
    have hq := z.vK x (List.mem_of_getElem? hx)
    have hw : wrap64 ((i : Int) + 1) = ((i + 1 : Nat) : Int) := w64 (by omega)
    have j5 : ∀ qs, Bd (101 + 3 * i) qs → qs ≠ [] → Ev (fun k => idiomref07_text.j5 k (joinT qs) (i : Int) l s r V K) (joinT (qs ++ flatK (x :: ys))) := by
      intro qs hqs hqn
      have hs0 := joinT_size hqs (by omega)
      have e1 := joinT_app hqn x.f0
      have b1 : Bd (102 + 3 * i) (qs ++ [x.f0]) := (hqs.app hq.1).le (by omega)
      have hs1 := joinT_size b1 (by omega)
      have hp1 : (joinT qs ++ (⟨#[45]⟩ : ByteArray)).size = (joinT qs).size + 1 := sz_app _ _
      unfold flatK
      by_cases h0 : L x.f1 = []
      · have h0' : x.f1.toList = [] := by rw [toList_L]; exact h0
        have ih := rt_l1 ys (i + 1) (qs ++ [x.f0]) hn (by omega) (b1.le (by omega)) app_ne (fun h => by omega)
        rw [if_neg (by omega)] at ih
        rw [nonE_none h0]
        rw [List.append_assoc] at ih
        refine Ev.step (fun k => ?_) ih
        simp only [idiomref07_text.j5]
        rw [if_pos (by omega), if_pos (by omega), if_pos (by omega), rdK_c hx, if_pos (by omega), if_pos h0', hw, e1]
      · have h0' : ¬ x.f1.toList = [] := by rw [toList_L]; exact h0
        have e2 := joinT_app (ps := qs ++ [x.f0]) app_ne x.f1
        have hp2 : (joinT (qs ++ [x.f0]) ++ (⟨#[45]⟩ : ByteArray)).size = (joinT (qs ++ [x.f0])).size + 1 := sz_app _ _
        have ih := rt_l1 ys (i + 1) (qs ++ [x.f0] ++ [x.f1]) hn (by omega) ((b1.app hq.2).le (by omega)) app_ne (fun h => by omega)
        rw [if_neg (by omega)] at ih
        rw [nonE_some h0]
        have e : qs ++ [x.f0] ++ [x.f1] ++ flatK ys = qs ++ (x.f0 :: [x.f1] ++ flatK ys) := by simp
        rw [e] at ih
        refine Ev.step (fun k => ?_) ih
        simp only [idiomref07_text.j5]
        rw [if_pos (by omega), if_pos (by omega), if_pos (by omega), rdK_c hx, if_pos (by omega), if_neg h0', if_pos (by rw [← e1]; omega), if_pos (by rw [← e1]; omega), ← e1, ← e2, hw]
    have hs := joinT_size hb (by omega)
    by_cases hi0 : i = 0
    · have hu : uK K = [UU] := if_pos (by omega)
      rw [if_pos hi0, hu]
      refine Ev.step (fun k => ?_) (j5 (ps ++ [UU]) ((hb.app (x := UU) (by decide)).le (by omega)) app_ne)
      simp only [idiomref07_text.l1]
      rw [if_pos (by omega), if_pos (by omega), if_pos (by omega), du, ← joinT_app hne]
    · rw [if_neg hi0]
      refine Ev.step (fun k => ?_) (j5 ps (hb.le (by omega)) hne)
      simp only [idiomref07_text.l1]
      rw [if_pos (by omega), if_neg (by omega)]
variable (hV : V.length ≤ 64)
include hV
theorem rt_l0 : ∀ (ys : List ByteArray) (i : Nat) (ps : List ByteArray), V.drop i = ys → i ≤ V.length → Bd (3 + i) ps → ps ≠ [] →
    Ev (fun k => idiomref07_text.l0 k (joinT ps) (i : Int) l s r V K) (joinT ((ps ++ ys ++ uK K) ++ flatK K))
  | [], i, ps, h, hi, hb, hne => by
    have hi2 : V.length ≤ i := List.drop_eq_nil_iff.1 h
    rw [List.append_nil]
    have := rt_l1 z hK K 0 ps rfl (by omega) (hb.le (by omega)) hne (fun _ => rfl)
    rw [if_pos rfl] at this
    refine Ev.step (fun k => ?_) this
    simp only [idiomref07_text.l0]
    rw [if_neg (by omega)]; rfl
  | x :: ys, i, ps, h, hi, hb, hne => by
    obtain ⟨hi2, hx, hn⟩ := drop_cons h
    have hq := z.vV x (List.mem_of_getElem? hx)
    have hw : wrap64 ((i : Int) + 1) = ((i + 1 : Nat) : Int) := w64 (by omega)
    have ih := rt_l0 ys (i + 1) (ps ++ [x]) hn (by omega) ((hb.app hq).le (by omega)) app_ne
    have e : ps ++ [x] ++ ys ++ uK K = ps ++ (x :: ys) ++ uK K := by simp
    rw [e] at ih
    have hs := joinT_size hb (by omega)
    have hp1 : (joinT ps ++ (⟨#[45]⟩ : ByteArray)).size = (joinT ps).size + 1 := sz_app _ _
    refine Ev.step (fun k => ?_) ih
    simp only [idiomref07_text.l0]
    rw [if_pos (by omega), if_pos (by omega), if_pos (by omega), rdOf_c hx, if_pos (by omega), hw, joinT_app hne]
theorem rtext_f : Ev (fun k => idiomref07_text.f k l s r V K) (joinT (parts l s r V K)) := by
  have t2 : ∀ ps, Bd 3 ps → ps ≠ [] → Ev (fun k => idiomref07_text.j2 k (joinT ps) l s r V K) (joinT ((ps ++ V ++ uK K) ++ flatK K)) := fun ps hb hne =>
    Ev.step (fun k => by simp only [idiomref07_text.j2]; rfl) (rt_l0 z hK hV V 0 ps rfl (by omega) hb hne)
  have t1 : ∀ ps, Bd 2 ps → ps ≠ [] → Ev (fun k => idiomref07_text.j1 k (joinT ps) l s r V K) (joinT ((ps ++ nonE r ++ V ++ uK K) ++ flatK K)) := by
    intro ps hb hne
    have hs := joinT_size hb (by omega)
    have hp1 : (joinT ps ++ (⟨#[45]⟩ : ByteArray)).size = (joinT ps).size + 1 := sz_app _ _
    have hr := z.r
    by_cases h0 : L r = []
    · have h0' : r.toList = [] := by rw [toList_L]; exact h0
      rw [nonE_none h0, List.append_nil]
      refine Ev.step (fun k => ?_) (t2 ps (hb.le (by omega)) hne)
      simp only [idiomref07_text.j1]
      rw [if_pos h0']
    · have h0' : ¬ r.toList = [] := by rw [toList_L]; exact h0
      rw [nonE_some h0]
      refine Ev.step (fun k => ?_) (t2 _ (hb.app z.r) app_ne)
      simp only [idiomref07_text.j1]
      rw [if_neg h0', if_pos (by omega), if_pos (by omega), joinT_app hne]
  have t0 : ∀ ps, Bd 1 ps → ps ≠ [] → Ev (fun k => idiomref07_text.j0 k (joinT ps) l s r V K) (joinT ((ps ++ nonE s ++ nonE r ++ V ++ uK K) ++ flatK K)) := by
    intro ps hb hne
    have hs := joinT_size hb (by omega)
    have hp1 : (joinT ps ++ (⟨#[45]⟩ : ByteArray)).size = (joinT ps).size + 1 := sz_app _ _
    have hr := z.s
    by_cases h0 : L s = []
    · have h0' : s.toList = [] := by rw [toList_L]; exact h0
      rw [nonE_none h0, List.append_nil]
      refine Ev.step (fun k => ?_) (t1 ps (hb.le (by omega)) hne)
      simp only [idiomref07_text.j0]
      rw [if_pos h0']
    · have h0' : ¬ s.toList = [] := by rw [toList_L]; exact h0
      rw [nonE_some h0]
      refine Ev.step (fun k => ?_) (t1 _ (hb.app z.s) app_ne)
      simp only [idiomref07_text.j0]
      rw [if_neg h0', if_pos (by omega), if_pos (by omega), joinT_app hne]
  have b0 : ∀ x : ByteArray, x.size ≤ 1048576 → Bd 1 [x] := fun x hx => ⟨by simp, fun y hy => by obtain rfl := List.mem_singleton.1 hy; exact hx⟩
  have one : ∀ x : ByteArray, joinT [x] = x := fun x => by
    apply L_inj; unfold joinT; rw [LS]; simp [Lib.join]
  unfold idiomref07_text.f parts langT
  by_cases h0 : L l = []
  · have h0' : l.toList = [] := by rw [toList_L]; exact h0
    rw [if_pos h0]
    simp only [if_pos h0']
    have := t0 [UND] (b0 UND (by decide)) (by simp)
    rw [one] at this
    exact this
  · have h0' : ¬ l.toList = [] := by rw [toList_L]; exact h0
    rw [if_neg h0]
    simp only [if_neg h0']
    have := t0 [l] (b0 l z.l) (by simp)
    rw [one] at this
    exact this
end
end Go.Proofs.YtphjhbppjakocaaGreatDoor.Pl
namespace Go.Proofs.YtphjhbppjakocaaGreatDoor.Pl
open Go.RowKit Go.Proofs.YtphjhbppjakocaaGreatDoorW.PrintWords Go.Proofs.YtphjhbppjakocaaGreatDoor.PTag
set_option linter.unusedVariables false
theorem checkP_few {l s r : ByteArray} {V : List ByteArray} {K : List Ke} (h : checkP l s r V K = 0) : V.length ≤ 64 ∧ K.length ≤ 64 := by
  unfold checkP at h
  split at h
  · split at h
    · split at h
      · unfold contP at h
        split at h
        · exact absurd h (by omega)
        · rename_i h1
          split at h
          · unfold restK at h
            split at h
            · exact absurd h (by omega)
            · rename_i h2; exact ⟨by omega, by omega⟩
          · rename_i h2; exact absurd h h2
      · exact absurd h (by omega)
    · exact absurd h (by omega)
  · exact absurd h (by omega)
def printP (l s r : ByteArray) (V : List ByteArray) (K : List Ke) : ByteArray × Int :=
  if checkP l s r V K = 0 then (if (joinT (parts l s r V K)).size ≤ 65536 then (joinT (parts l s r V K), 0) else (⟨#[]⟩, 2)) else (⟨#[]⟩, checkP l s r V K)
theorem awake_f1 : Ev (fun k => idiomlaw07_awake.f k) true := Ev.of (fun k => idiomlaw07_awake.mono k) (k := 20) (by kernel_rfl)
section
variable {l s r : ByteArray} {V : List ByteArray} {K : List Ke} (z : Sz l s r V K)
include z
theorem print_f : Ev (fun k => tag_Print.f k l s r V K) (printP l s r V K) := by
  unfold tag_Print.f printP
  refine Ev.bind (check_f z) ?_
  by_cases h : checkP l s r V K = 0
  · obtain ⟨h1, h2⟩ := checkP_few h
    simp only [if_pos h]
    refine Ev.bind (text_f z h1 h2) ?_
    by_cases h3 : (joinT (parts l s r V K)).size ≤ 65536
    · simp only [if_pos h3, if_neg (show ¬ (((joinT (parts l s r V K)).size : Int) > 65536) by omega)]; exact Ev.now _
    · simp only [if_neg h3, if_pos (show (((joinT (parts l s r V K)).size : Int) > 65536) by omega)]; exact Ev.now _
  · simp only [if_neg h]; exact Ev.now _
theorem rprint_f : Ev (fun k => idiomref07_Print.f k l s r V K) (printP l s r V K) := by
  unfold idiomref07_Print.f printP
  refine Ev.bind (rcheck_f z) ?_
  by_cases h : checkP l s r V K = 0
  · obtain ⟨h1, h2⟩ := checkP_few h
    simp only [if_pos h]
    refine Ev.bind (rtext_f z h2 h1) ?_
    by_cases h3 : (joinT (parts l s r V K)).size ≤ 65536
    · simp only [if_pos h3, if_pos (show (((joinT (parts l s r V K)).size : Int) ≤ 65536) by omega)]; exact Ev.now _
    · simp only [if_neg h3, if_neg (show ¬ (((joinT (parts l s r V K)).size : Int) ≤ 65536) by omega)]; exact Ev.now _
  · simp only [if_neg h]; exact Ev.now _
theorem copy_f : idiomref07_Copy.f l s r V K = some (l, s, r, V, K) := by
  have h1 := z.nV
  have h2 := z.nK
  unfold idiomref07_Copy.f
  simp only [Option.bind_some, List.nil_append, List.length_nil, Nat.zero_add]
  rw [if_pos (by omega), if_pos (by omega)]
end
end Go.Proofs.YtphjhbppjakocaaGreatDoor.Pl
namespace Go.Proofs.YtphjhbppjakocaaGreatDoor.Pl
open Go.RowKit Go.Proofs.YtphjhbppjakocaaGreatDoorW.PrintWords Go.Proofs.YtphjhbppjakocaaGreatDoor.PTag
set_option linter.unusedVariables false
/-- Letters and digits alone. -/
def Cl (l : Bs) : Prop := ∀ c ∈ l, isS c = true
set_option maxRecDepth 100000 in
theorem isS_not (c : UInt8) : (isS c = true → sepB c = false ∧ c ≠ 45) ∧ (isL c = true → isS c = true) ∧ (isD c = true → isS c = true) :=
  all_u8 (p := fun c => (isS c = true → sepB c = false ∧ c ≠ 45) ∧ (isL c = true → isS c = true) ∧ (isD c = true → isS c = true)) (by decide +kernel) c
theorem cl_lets {l : Bs} {a b : Nat} (h : lets l a b = true) : Cl l := by
  unfold lets at h
  simp only [Bool.and_eq_true, List.all_eq_true] at h
  exact fun c hc => (isS_not c).2.1 (h.1 c hc)
theorem cl_sgns {l : Bs} {a b : Nat} (h : sgns l a b = true) : Cl l := by
  unfold sgns at h
  simp only [Bool.and_eq_true, List.all_eq_true] at h
  exact h.1
theorem cl_regn {l : Bs} (h : regn l = true) : Cl l := by
  unfold regn at h
  rcases Bool.or_eq_true .. |>.mp h with h | h
  · exact cl_lets h
  · unfold nums at h
    simp only [Bool.and_eq_true, List.all_eq_true] at h
    exact fun c hc => (isS_not c).2.2 (h.1 c hc)
theorem cl_vart {l : Bs} (h : vart l = true) : Cl l := by
  unfold vart at h
  rcases Bool.or_eq_true .. |>.mp h with h | h
  · exact cl_sgns h
  · exact cl_sgns (Bool.and_eq_true .. |>.mp h).1
/-- A row cut at each sign. -/
def cutS : Bs → List Bs
  | [] => [[]]
  | x :: l => if sepB x = true then [] :: cutS l else (match cutS l with | [] => [[x]] | h :: t => (x :: h) :: t)
theorem cutS_ne : ∀ l : Bs, ∃ h t, cutS l = h :: t
  | [] => ⟨_, _, rfl⟩
  | x :: l => by
    obtain ⟨h, t, e⟩ := cutS_ne l
    unfold cutS
    rw [e]
    split
    · exact ⟨_, _, rfl⟩
    · exact ⟨_, _, rfl⟩
theorem glueS_nil (l : Bs) : glue [] (cutS l) = cutS l := by
  obtain ⟨h, t, e⟩ := cutS_ne l
  rw [e]; rfl
/-- The pieces' texts. -/
def T (ps : List Pc) : List Bs := ps.map fun p => L p.f0
theorem pcs_cut (s : ByteArray) : ∀ (d i b : Nat), s.size - i = d → i ≤ s.size → b ≤ i → T (pcs s d i b) = glue (((L s).take i).drop b) (cutS ((L s).drop i)) := by
  intro d
  induction d with
  | zero =>
    intro i b hd hi hb
    have e : (L s).drop i = [] := List.drop_eq_nil_of_le (by rw [L_len]; omega)
    rw [e]
    show [L (s.extract b i)] = [((L s).take i).drop b ++ []]
    rw [L_ext, List.append_nil]
  | succ d ih =>
    intro i b hd hi hb
    have hlt : i < (L s).length := by rw [L_len]; omega
    have hg : (L s).getD i 0 = (L s)[i] := by rw [List.getD_eq_getElem?_getD, List.getElem?_eq_getElem hlt]; rfl
    have e : (L s).drop i = (L s)[i] :: (L s).drop (i + 1) := List.drop_eq_getElem_cons hlt
    rw [e]
    unfold pcs cutS
    rw [hg]
    by_cases hc : sepB (L s)[i] = true
    · rw [if_pos hc, if_pos hc]
      have e2 : ((L s).take (i + 1)).drop (i + 1) = [] := List.drop_eq_nil_of_le (by rw [List.length_take]; omega)
      have ih' := ih (i + 1) (i + 1) (by omega) (by omega) (Nat.le_refl _)
      rw [e2, glueS_nil] at ih'
      show L (s.extract b i) :: T (pcs s d (i + 1) (i + 1)) = (((L s).take i).drop b ++ []) :: _
      rw [ih', L_ext, List.append_nil]
    · rw [if_neg hc, if_neg hc, ih (i + 1) b (by omega) (by omega) (by omega)]
      rw [List.take_succ_eq_append_getElem hlt, List.drop_append_of_le_length (by rw [List.length_take]; omega)]
      obtain ⟨h, t, e3⟩ := cutS_ne ((L s).drop (i + 1))
      rw [e3]
      show (((L s).take i).drop b ++ [(L s)[i]] ++ h) :: t = (((L s).take i).drop b ++ ((L s)[i] :: h)) :: t
      rw [List.append_assoc]; rfl
theorem pieces_cut (s : ByteArray) : T (pieces s) = cutS (L s) := by
  unfold pieces
  rw [pcs_cut s s.size 0 0 (by omega) (by omega) (Nat.le_refl _)]
  exact glueS_nil _
theorem cutS_cons (x : UInt8) (l : Bs) : cutS (x :: l) = if sepB x = true then [] :: cutS l else (match cutS l with | [] => [[x]] | h :: t => (x :: h) :: t) := rfl
theorem cutS_clean : ∀ {l : Bs}, Cl l → cutS l = [l]
  | [], _ => rfl
  | x :: l, h => by
    have hx := ((isS_not x).1 (h x (List.mem_cons_self ..))).1
    unfold cutS
    rw [if_neg (by rw [hx]; simp), cutS_clean (fun c hc => h c (List.mem_cons_of_mem _ hc))]
theorem cutS_dash : ∀ {a : Bs} (r : Bs), Cl a → cutS (a ++ 45 :: r) = a :: cutS r
  | [], r, _ => by
    show cutS (45 :: r) = _
    rw [cutS_cons 45 r, if_pos (by decide)]
  | x :: a, r, h => by
    have hx := ((isS_not x).1 (h x (List.mem_cons_self ..))).1
    rw [List.cons_append, cutS_cons x (a ++ 45 :: r), if_neg (by rw [hx]; simp), cutS_dash r (fun c hc => h c (List.mem_cons_of_mem _ hc))]
theorem join_two (a b : Bs) (r : List Bs) : Lib.join (a :: b :: r) [45] = a ++ 45 :: Lib.join (b :: r) [45] := by
  simp [Lib.join, List.intercalate]
theorem cutS_join : ∀ (a : Bs) (r : List Bs), (∀ x ∈ a :: r, Cl x) → cutS (Lib.join (a :: r) [45]) = a :: r
  | a, [], h => by rw [Lib.join_one]; exact cutS_clean (h a (by simp))
  | a, b :: r, h => by rw [join_two, cutS_dash _ (h a (by simp)), cutS_join b r (fun x hx => h x (List.mem_cons_of_mem _ hx))]
theorem cutL_clean : ∀ {l : Bs}, Cl l → cutL 45 l = [l]
  | [], _ => rfl
  | x :: l, h => by
    have hx := ((isS_not x).1 (h x (List.mem_cons_self ..))).2
    unfold cutL
    rw [if_neg hx, cutL_clean (fun c hc => h c (List.mem_cons_of_mem _ hc))]
theorem join_cutL : ∀ l : Bs, Lib.join (cutL 45 l) [45] = l
  | [] => rfl
  | x :: l => by
    have ih := join_cutL l
    obtain ⟨h, t, e⟩ := cutL_ne 45 l
    unfold cutL
    by_cases hx : x = 45
    · rw [if_pos hx, e, join_two, ← e, ih, hx]; rfl
    · rw [if_neg hx, e]
      rw [e] at ih
      cases t with
      | nil => rw [Lib.join_one] at ih ⊢; rw [ih]
      | cons b t =>
        show Lib.join ((x :: h) :: b :: t) [45] = _
        rw [join_two] at ih ⊢
        rw [List.cons_append, ih]
theorem join_app : ∀ (a : List Bs) (b : Bs) (r : List Bs), a ≠ [] → Lib.join (a ++ b :: r) [45] = Lib.join a [45] ++ 45 :: Lib.join (b :: r) [45]
  | [], _, _, h => absurd rfl h
  | [x], b, r, _ => by rw [Lib.join_one]; exact join_two x b r
  | x :: y :: a, b, r, _ => by
    have ih := join_app (y :: a) b r (by simp)
    show Lib.join (x :: y :: (a ++ b :: r)) [45] = _
    rw [join_two, join_two, List.append_assoc, List.cons_append]
    have e : y :: (a ++ b :: r) = y :: a ++ b :: r := rfl
    rw [e, ih]
/-- Cut at dashes, each piece. -/
def cutAll (ps : List ByteArray) : List Bs := ps.flatMap fun x => cutL 45 (L x)
theorem join_cutAll : ∀ ps : List ByteArray, Lib.join (cutAll ps) [45] = Lib.join (ps.map L) [45]
  | [] => rfl
  | [x] => by
    show Lib.join (cutL 45 (L x) ++ []) [45] = Lib.join [L x] [45]
    rw [List.append_nil, join_cutL, Lib.join_one]
  | x :: y :: r => by
    have ih := join_cutAll (y :: r)
    obtain ⟨h, t, e⟩ := cutL_ne 45 (L y)
    have e2 : cutAll (y :: r) = h :: (t ++ cutAll r) := by unfold cutAll; rw [List.flatMap_cons, e]; rfl
    obtain ⟨h', t', e'⟩ := cutL_ne 45 (L x)
    have e3 : cutAll (x :: y :: r) = cutL 45 (L x) ++ cutAll (y :: r) := rfl
    rw [e3, e2, join_app _ _ _ (by rw [e']; simp), ← e2, ih, join_cutL]
    show _ = Lib.join (L x :: L y :: r.map L) [45]
    rw [join_two]; rfl
/-- The pieces of a joined row. -/
theorem pieces_join (a : ByteArray) (r : List ByteArray) (h : ∀ x ∈ cutAll (a :: r), Cl x) : T (pieces (joinT (a :: r))) = cutAll (a :: r) := by
  rw [pieces_cut]
  unfold joinT
  rw [LS, ← join_cutAll]
  obtain ⟨h', t', e'⟩ := cutL_ne 45 (L a)
  have e : cutAll (a :: r) = h' :: (t' ++ cutAll r) := by unfold cutAll; rw [List.flatMap_cons, e']; rfl
  rw [e] at h ⊢
  exact cutS_join _ _ h
end Go.Proofs.YtphjhbppjakocaaGreatDoor.Pl
namespace Go.Proofs.YtphjhbppjakocaaGreatDoor.Pl
open Go.RowKit Go.Proofs.YtphjhbppjakocaaGreatDoorW.PrintWords Go.Proofs.YtphjhbppjakocaaGreatDoor.PTag
set_option linter.unusedVariables false
theorem rise_lt {p v : ByteArray} (h : rise (some p) v = 0) : L p < L v := by
  rw [rise_some] at h
  by_cases h1 : p.toList = v.toList
  · rw [if_pos h1] at h; exact absurd h (by decide)
  · rw [if_neg h1] at h
    by_cases h2 : Op.bytesLess v.toList p.toList = true
    · rw [if_pos h2] at h; exact absurd h (by decide)
    · rw [bless_, decide_eq_true_eq, toList_L, toList_L] at h2
      rw [toList_L, toList_L] at h1
      by_cases h3 : L p < L v
      · exact h3
      · exact absurd (List.le_antisymm (List.not_lt.1 h2) (List.not_lt.1 h3)) h1
theorem vc_facts : ∀ (V : List ByteArray) (pr : Option ByteArray), vcP pr V = 0 → (∀ v ∈ V, vart (L v) = true ∧ low v = v) ∧ (∀ p, pr = some p → ∀ v ∈ V, L p < L v) ∧ V.Pairwise fun a b => L a < L b
  | [], _, _ => ⟨(fun _ h => by cases h), (fun _ _ _ h => by cases h), List.Pairwise.nil⟩
  | v :: vs, pr, h => by
    unfold vcP at h
    by_cases h1 : vart (L v) = true
    · rw [if_pos h1] at h
      by_cases h2 : low v = v
      · rw [if_pos h2] at h
        by_cases h3 : rise pr v = 0
        · rw [if_pos h3] at h
          obtain ⟨i1, i2, i3⟩ := vc_facts vs (some v) h
          have hv := i2 v rfl
          refine ⟨fun x hx => ?_, fun p hp x hx => ?_, List.pairwise_cons.2 ⟨hv, i3⟩⟩
          · rcases List.mem_cons.1 hx with rfl | hx
            · exact ⟨h1, h2⟩
            · exact i1 x hx
          · subst hp
            have := rise_lt h3
            rcases List.mem_cons.1 hx with rfl | hx
            · exact this
            · exact List.lt_trans this (hv x hx)
        · rw [if_neg h3] at h; exact absurd h h3
      · rw [if_neg h2] at h; exact absurd h (by decide)
    · rw [if_neg h1] at h; exact absurd h (by decide)
def KOk (x : Ke) : Prop := sgns (L x.f0) 2 2 = true ∧ low x.f0 = x.f0 ∧ valP x.f1 = true
theorem kc_facts : ∀ (K : List Ke) (pr : Option Ke), kcP pr K = 0 → (∀ x ∈ K, KOk x) ∧ (∀ p, pr = some p → ∀ x ∈ K, L p.f0 < L x.f0) ∧ K.Pairwise fun a b => L a.f0 < L b.f0
  | [], _, _ => ⟨(fun _ h => by cases h), (fun _ _ _ h => by cases h), List.Pairwise.nil⟩
  | v :: vs, pr, h => by
    unfold kcP at h
    by_cases h1 : sgns (L v.f0) 2 2 = true
    · rw [if_pos h1] at h
      by_cases h2 : low v.f0 = v.f0
      · rw [if_pos h2] at h
        by_cases h4 : valP v.f1 = true
        · rw [if_pos h4] at h
          by_cases h3 : rise (pr.map (·.f0)) v.f0 = 0
          · rw [if_pos h3] at h
            obtain ⟨i1, i2, i3⟩ := kc_facts vs (some v) h
            have hv := i2 v rfl
            refine ⟨fun x hx => ?_, fun p hp x hx => ?_, List.pairwise_cons.2 ⟨hv, i3⟩⟩
            · rcases List.mem_cons.1 hx with rfl | hx
              · exact ⟨h1, h2, h4⟩
              · exact i1 x hx
            · subst hp
              have := rise_lt (p := p.f0) h3
              rcases List.mem_cons.1 hx with rfl | hx
              · exact this
              · exact List.lt_trans this (hv x hx)
          · rw [if_neg h3] at h; exact absurd h h3
        · rw [if_neg h4] at h; exact absurd h (by decide)
      · rw [if_neg h2] at h; exact absurd h (by decide)
    · rw [if_neg h1] at h; exact absurd h (by decide)
theorem sort_own {V : List ByteArray} (h : V.Pairwise fun a b => L a < L b) : sortTexts V = V := by
  rw [← isrt_texts]
  refine List.Perm.eq_of_pairwise (le := fun a b => ltT b a = false) ?_ (isrt_asc swoT V) ?_ (isrt_perm ltT V)
  · intro a b _ _ h1 h2
    simp only [ltT_eq, decide_eq_false_iff_not] at h1 h2
    exact L_inj (List.le_antisymm (List.not_lt.1 h1) (List.not_lt.1 h2))
  · exact h.imp (fun {a b} hab => by rw [ltT_eq]; exact decide_eq_false (List.lt_asymm hab))
theorem sortK_own {K : List Ke} (h : K.Pairwise fun a b => L a.f0 < L b.f0) : sortKeys K = K := by
  have hn : Nm1 K := h.imp (fun {a b} hab e => by rw [e] at hab; exact List.lt_irrefl _ hab)
  refine List.Perm.eq_of_pairwise (le := fun a b => ltOf keyCmp b a = false) ?_ (sortKeys_asc K) ?_ (sortKeys_perm K)
  · intro a b ha hb h1 h2
    have ha := (sortKeys_perm K).mem_iff.1 ha
    simp only [keyLt, decide_eq_false_iff_not] at h1 h2
    exact nm1_eq hn ha hb (L_inj (List.le_antisymm (List.not_lt.1 h1) (List.not_lt.1 h2)))
  · exact h.imp (fun {a b} hab => by rw [keyLt]; exact decide_eq_false (List.lt_asymm hab))
/-! The pieces, one after another. -/
theorem T_cons {ps : List Pc} {a : Bs} {r : List Bs} (h : T ps = a :: r) : ∃ p pt, ps = p :: pt ∧ L p.f0 = a ∧ T pt = r := by
  cases ps with
  | nil => cases h
  | cons p pt => exact ⟨p, pt, rfl, (List.cons.inj h).1, (List.cons.inj h).2⟩
theorem T_nil {ps : List Pc} (h : T ps = []) : ps = [] := by
  cases ps with
  | nil => rfl
  | cons p pt => cases h
theorem varsP_back : ∀ (V : List ByteArray) (rest : List Bs) (acc : List ByteArray) (ps : List Pc), T ps = V.map L ++ rest → (∀ v ∈ V, vart (L v) = true ∧ low v = v) → (acc ++ V).Pairwise (fun a b => L a < L b) → (acc ++ V).length ≤ 64 →
    (∀ a t, rest = a :: t → vart a = false) → ∃ ps', varsP ps acc = (0, ps', acc ++ V) ∧ T ps' = rest
  | [], rest, acc, ps, h, _, _, _, hs => by
    refine ⟨ps, ?_, h⟩
    rw [List.append_nil]
    cases ps with
    | nil => rfl
    | cons p pt =>
      have h2 : L p.f0 :: T pt = rest := h
      have := hs _ _ h2.symm
      unfold varsP
      rw [if_neg (by rw [this]; simp)]
  | v :: V, rest, acc, ps, h, hv, hp, hl, hs => by
    obtain ⟨p, pt, rfl, e1, e2⟩ := T_cons h
    have e3 : p.f0 = v := L_inj e1
    have h1 := hv v (List.mem_cons_self ..)
    have ih := varsP_back V rest (acc ++ [v]) pt e2 (fun x hx => hv x (List.mem_cons_of_mem _ hx)) (by rw [List.append_assoc]; exact hp) (by rw [List.append_assoc]; exact hl) hs
    rw [List.append_assoc] at ih
    have hc : ¬ Lib.containsS acc v = true := by
      rw [Lib.containsS_iff]
      intro hm
      have := (List.pairwise_append.1 hp).2.2 v hm v (List.mem_cons_self ..)
      exact List.lt_irrefl _ this
    have hlen : ¬ acc.length = 64 := by rw [List.length_append, List.length_cons] at hl; omega
    unfold varsP
    rw [e3, if_pos h1.1, h1.2, if_neg hc, if_neg hlen]
    exact ih
theorem valsP_back : ∀ (vs rest : List Bs) (acc : List ByteArray) (ps : List Pc), T ps = vs ++ rest → (∀ v ∈ vs, sgns v 3 8 = true ∧ v.map lowB = v) → (∀ a t, rest = a :: t → sgns a 3 8 = false) → ∃ ps', valsP ps acc = (ps', acc ++ vs.map S) ∧ T ps' = rest
  | [], rest, acc, ps, h, _, hs => by
    refine ⟨ps, ?_, h⟩
    rw [List.map_nil, List.append_nil]
    cases ps with
    | nil => rfl
    | cons p pt =>
      have h2 : L p.f0 :: T pt = rest := h
      have := hs _ _ h2.symm
      unfold valsP
      rw [if_neg (by rw [this]; simp)]
  | v :: vs, rest, acc, ps, h, hv, hs => by
    obtain ⟨p, pt, rfl, e1, e2⟩ := T_cons h
    have h1 := hv v (List.mem_cons_self ..)
    have e3 : low p.f0 = S v := by unfold low; rw [e1, h1.2]
    have ih := valsP_back vs rest (acc ++ [S v]) pt e2 (fun x hx => hv x (List.mem_cons_of_mem _ hx)) hs
    rw [List.append_assoc] at ih
    unfold valsP
    rw [e1, if_pos h1.1, e3]
    exact ih
/-- A value's pieces. -/
def vpc (v : ByteArray) : List Bs := if L v = [] then [] else cutL 45 (L v)
def kpc : List Ke → List Bs
  | [] => []
  | x :: K => (L x.f0 :: vpc x.f1) ++ kpc K
theorem low_map {v : ByteArray} (h : low v = v) : (L v).map lowB = L v := by
  have := congrArg L h
  unfold low at this
  rw [LS] at this
  exact this
theorem cutL_mem : ∀ (l : Bs), ∀ p ∈ cutL 45 l, ∀ c ∈ p, c ∈ l
  | [], p, hp, c, hc => by obtain rfl := List.mem_singleton.1 hp; cases hc
  | x :: l, p, hp, c, hc => by
    have ih := cutL_mem l
    obtain ⟨h, t, e⟩ := cutL_ne 45 l
    unfold cutL at hp
    by_cases hx : x = 45
    · rw [if_pos hx] at hp
      rcases List.mem_cons.1 hp with rfl | hp
      · cases hc
      · exact List.mem_cons_of_mem _ (ih p hp c hc)
    · rw [if_neg hx, e] at hp
      rw [e] at ih
      rcases List.mem_cons.1 hp with rfl | hp
      · rcases List.mem_cons.1 hc with rfl | hc
        · exact List.mem_cons_self ..
        · exact List.mem_cons_of_mem _ (ih h (List.mem_cons_self ..) c hc)
      · exact List.mem_cons_of_mem _ (ih p (List.mem_cons_of_mem _ hp) c hc)
theorem map_id_mem {l : Bs} (h : l.map lowB = l) : ∀ c ∈ l, lowB c = c := by
  intro c hc
  obtain ⟨i, hi, rfl⟩ := List.getElem_of_mem hc
  have := List.getElem_of_eq h (by simpa using hi)
  simpa using this
theorem vpc_ok {v : ByteArray} (h : valP v = true) : (∀ p ∈ vpc v, sgns p 3 8 = true ∧ p.map lowB = p) ∧ keptVal (joinD ((vpc v).map S)) = v := by
  unfold vpc
  by_cases h0 : L v = []
  · rw [if_pos h0]
    refine ⟨fun p hp => (by cases hp), ?_⟩
    have e : v = ⟨#[]⟩ := L_inj h0
    have e2 : joinD (([] : List Bs).map S) = ⟨#[]⟩ := L_inj (by unfold joinD; rw [LS]; rfl)
    rw [e, e2]
    unfold keptVal
    split <;> rfl
  · rw [if_neg h0]
    unfold valP at h
    rw [decide_eq_false h0, Bool.false_or] at h
    simp only [Bool.and_eq_true, decide_eq_true_eq, List.all_eq_true] at h
    obtain ⟨⟨h1, h2⟩, h3⟩ := h
    have hm := map_id_mem (low_map h2)
    refine ⟨fun p hp => ⟨h3 p hp, ?_⟩, ?_⟩
    · have := List.map_congr_left (f := lowB) (g := id) (l := p) (fun c hc => hm c (cutL_mem _ p hp c hc))
      rw [this, List.map_id]
    · have e : joinD ((cutL 45 (L v)).map S) = v := by
        unfold joinD
        have e2 : ((cutL 45 (L v)).map S).map L = cutL 45 (L v) := by
          rw [List.map_map]
          refine (List.map_congr_left (g := id) (fun x _ => LS x)).trans (List.map_id _)
        rw [e2, join_cutL, SL]
      rw [e]
      unfold keptVal
      rw [toList_L, if_neg h1]
theorem sg2_no {a : Bs} (h : sgns a 2 2 = true) : sgns a 3 8 = false := by
  have := (sgns_pos h).2
  cases h3 : sgns a 3 8 with
  | false => rfl
  | true => have := (sgns_pos h3).1; omega
theorem keysP_back : ∀ (K : List Ke) (n : Nat) (acc : List Ke) (ps : List Pc), T ps = kpc K → K.length ≤ n → (∀ x ∈ K, KOk x) → (acc ++ K).Pairwise (fun a b => L a.f0 < L b.f0) → (acc ++ K).length ≤ 64 → keysP n ps acc = (0, [], acc ++ K)
  | [], n, acc, ps, h, _, _, _, _ => by
    obtain rfl := T_nil h
    rw [List.append_nil]
    cases n <;> rfl
  | x :: K, 0, acc, ps, h, hn, _, _, _ => absurd hn (by simp)
  | x :: K, n + 1, acc, ps, h, hn, hk, hp, hl => by
    have hx := hk x (List.mem_cons_self ..)
    have hv := vpc_ok hx.2.2
    obtain ⟨p, pt, rfl, e1, e2⟩ := T_cons (a := L x.f0) (r := vpc x.f1 ++ kpc K) h
    have e3 : p.f0 = x.f0 := L_inj e1
    obtain ⟨ps', hps, hT⟩ := valsP_back (vpc x.f1) (kpc K) [] pt e2 hv.1 (by
      intro a t ha
      cases K with
      | nil => cases ha
      | cons y K' =>
        have : a = L y.f0 := by
          have e : kpc (y :: K') = L y.f0 :: (vpc y.f1 ++ kpc K') := rfl
          rw [e] at ha
          exact (List.cons.inj ha).1.symm
        rw [this]
        exact sg2_no (hk y (by simp)).1)
    have ih := keysP_back K n (acc ++ [x]) ps' hT (by simpa using hn) (fun y hy => hk y (List.mem_cons_of_mem _ hy)) (by rw [List.append_assoc]; exact hp) (by rw [List.append_assoc]; exact hl)
    rw [List.append_assoc] at ih
    have hc : ¬ hasName acc x.f0 = true := by
      unfold hasName
      rw [List.any_eq_true]
      rintro ⟨y, hy, he⟩
      have := (List.pairwise_append.1 hp).2.2 y hy x (List.mem_cons_self ..)
      have e : L y.f0 = L x.f0 := by have := beq_iff_eq.1 he; rw [toList_L, toList_L] at this; exact this
      rw [e] at this
      exact List.lt_irrefl _ this
    have hlen : ¬ acc.length = 64 := by rw [List.length_append, List.length_cons] at hl; omega
    unfold keysP
    rw [e3, if_pos hx.1, hx.2.1, if_neg hc, if_neg hlen, hps]
    have e5 : (⟨x.f0, keptVal (joinD (([] : List ByteArray) ++ (vpc x.f1).map S))⟩ : Ke) = x := by rw [List.nil_append, hv.2]
    show keysP n ps' (acc ++ [⟨x.f0, keptVal (joinD (([] : List ByteArray) ++ (vpc x.f1).map S))⟩]) = _
    rw [e5]
    exact ih
end Go.Proofs.YtphjhbppjakocaaGreatDoor.Pl
namespace Go.Proofs.YtphjhbppjakocaaGreatDoor.Pl
open Go.RowKit Go.Proofs.YtphjhbppjakocaaGreatDoorW.PrintWords Go.Proofs.YtphjhbppjakocaaGreatDoor.PTag
set_option linter.unusedVariables false
theorem cutAll_app (a b : List ByteArray) : cutAll (a ++ b) = cutAll a ++ cutAll b := by unfold cutAll; rw [List.flatMap_append]
theorem cutAll_clean : ∀ {a : List ByteArray}, (∀ x ∈ a, Cl (L x)) → cutAll a = a.map L
  | [], _ => rfl
  | x :: a, h => by
    have ih := cutAll_clean (a := a) (fun y hy => h y (List.mem_cons_of_mem _ hy))
    show cutL 45 (L x) ++ cutAll a = L x :: a.map L
    rw [cutL_clean (h x (List.mem_cons_self ..)), ih]; rfl
theorem cutAll_keys : ∀ (K : List Ke), (∀ x ∈ K, KOk x) → cutAll (flatK K) = kpc K
  | [], _ => rfl
  | x :: K, h => by
    have ih := cutAll_keys K (fun y hy => h y (List.mem_cons_of_mem _ hy))
    have hx := h x (List.mem_cons_self ..)
    have e1 : flatK (x :: K) = [x.f0] ++ nonE x.f1 ++ flatK K := rfl
    have e2 : cutAll (nonE x.f1) = vpc x.f1 := by
      unfold nonE vpc
      split
      · rfl
      · show cutL 45 (L x.f1) ++ [] = _
        rw [List.append_nil]
    rw [e1, cutAll_app, cutAll_app, ih, e2, cutAll_clean (fun y hy => by obtain rfl := List.mem_singleton.1 hy; exact cl_sgns hx.1)]
    rfl
/-- What Check lets be. -/
structure Ok (l s r : ByteArray) (V : List ByteArray) (K : List Ke) : Prop where
  l : langOk l = true
  s : scrOk s = true
  r : regOk r = true
  nV : V.length ≤ 64
  nK : K.length ≤ 64
  vV : ∀ v ∈ V, vart (L v) = true ∧ low v = v
  pV : V.Pairwise fun a b => L a < L b
  vK : ∀ x ∈ K, KOk x
  pK : K.Pairwise fun a b => L a.f0 < L b.f0
theorem ok_of {l s r : ByteArray} {V : List ByteArray} {K : List Ke} (h : checkP l s r V K = 0) : Ok l s r V K := by
  unfold checkP at h
  by_cases h1 : langOk l = true
  · rw [if_pos h1] at h
    by_cases h2 : scrOk s = true
    · rw [if_pos h2] at h
      by_cases h3 : regOk r = true
      · rw [if_pos h3] at h
        unfold contP at h
        by_cases h4 : V.length > 64
        · rw [if_pos h4] at h; exact absurd h (by decide)
        · rw [if_neg h4] at h
          by_cases h5 : vcP none V = 0
          · rw [if_pos h5] at h
            unfold restK at h
            by_cases h6 : K.length > 64
            · rw [if_pos h6] at h; exact absurd h (by decide)
            · rw [if_neg h6] at h
              have f1 := vc_facts V none h5
              have f2 := kc_facts K none h
              exact ⟨h1, h2, h3, by omega, by omega, f1.1, f1.2.2, f2.1, f2.2.2⟩
          · rw [if_neg h5] at h; exact absurd h h5
      · rw [if_neg h3] at h; exact absurd h (by decide)
    · rw [if_neg h2] at h; exact absurd h (by decide)
  · rw [if_neg h1] at h; exact absurd h (by decide)
theorem lang_facts {l : ByteArray} (h : langOk l = true) : lets (L (langT l)) 2 3 = true ∧ keptLang (low (langT l)) = l := by
  unfold langT
  by_cases h0 : L l = []
  · rw [if_pos h0]
    have e : l = ⟨#[]⟩ := L_inj h0
    rw [e]
    refine ⟨by rfl, ?_⟩
    have e2 : low UND = UND := by rfl
    rw [e2]
    unfold keptLang
    rw [toList_L, if_pos (by rfl)]
  · rw [if_neg h0]
    unfold langOk at h
    rw [decide_eq_false h0, Bool.false_or] at h
    simp only [Bool.and_eq_true, decide_eq_true_eq] at h
    refine ⟨h.1, ?_⟩
    rw [h.2.1]
    unfold keptLang
    rw [toList_L, if_neg h.2.2]
theorem scr_facts {s : ByteArray} (h : scrOk s = true) (h0 : ¬ L s = []) : lets (L s) 4 4 = true ∧ titl s = s := by
  unfold scrOk at h
  rw [decide_eq_false h0, Bool.false_or] at h
  simpa using h
theorem reg_facts {r : ByteArray} (h : regOk r = true) (h0 : ¬ L r = []) : regn (L r) = true ∧ upp r = r := by
  unfold regOk at h
  rw [decide_eq_false h0, Bool.false_or] at h
  simpa using h
def NH (X : List Bs) (q : Bs → Bool) : Prop := ∀ a t, X = a :: t → q a = false
theorem now_no {ps : List Pc} {X : List Bs} {q : Bs → Bool} (h : T ps = X) (hn : NH X q) (h0 : q [] = false) : q (L (nowT ps)) = false := by
  cases ps with
  | nil => exact h0
  | cons p pt => exact hn _ _ h.symm
theorem regn_len {a : Bs} (h : regn a = true) : a.length = 2 ∨ a.length = 3 := by
  unfold regn at h
  rcases Bool.or_eq_true .. |>.mp h with h | h
  · have := lets_pos h; omega
  · unfold nums at h
    simp only [Bool.and_eq_true, decide_eq_true_eq] at h
    exact Or.inr h.2
set_option maxRecDepth 100000 in
theorem isD_isL (c : UInt8) : isD c = true → isL c = false := all_u8 (p := fun c => isD c = true → isL c = false) (by decide +kernel) c
theorem vart_no {a : Bs} (h : vart a = true) : lets a 4 4 = false ∧ regn a = false := by
  unfold vart at h
  rcases Bool.or_eq_true .. |>.mp h with h | h
  · have hl := (sgns_pos h).1
    constructor
    · cases h4 : lets a 4 4 with
      | false => rfl
      | true => have := (lets_pos h4).2; omega
    · cases h4 : regn a with
      | false => rfl
      | true => have := regn_len h4; omega
  · simp only [Bool.and_eq_true] at h
    have hl := sgns_pos h.1
    constructor
    · cases h4 : lets a 4 4 with
      | false => rfl
      | true =>
        unfold lets at h4
        simp only [Bool.and_eq_true, List.all_eq_true] at h4
        cases a with
        | nil => simp at hl
        | cons c t =>
          have h5 := h4.1 c (List.mem_cons_self ..)
          rw [isD_isL c h.2] at h5; cases h5
    · cases h4 : regn a with
      | false => rfl
      | true => have := regn_len h4; omega
theorem regn_no {a : Bs} (h : regn a = true) : lets a 4 4 = false := by
  cases h4 : lets a 4 4 with
  | false => rfl
  | true => have := lets_pos h4; have := regn_len h; omega
section
variable {l s r : ByteArray} {V : List ByteArray} {K : List Ke} (o : Ok l s r V K)
include o
def tailK (K : List Ke) : List Bs := (uK K).map L ++ kpc K
omit o in
theorem tailK_head (K : List Ke) : ∀ a t, tailK K = a :: t → a = [117] := by
  intro a t h
  cases K with
  | nil => cases h
  | cons x K => exact (List.cons.inj h).1.symm
theorem Y_head : ∀ a t, V.map L ++ tailK K = a :: t → lets a 4 4 = false ∧ regn a = false := by
  intro a t h
  cases V with
  | nil => rw [tailK_head K a t h]; exact ⟨by rfl, by rfl⟩
  | cons v V =>
    have : a = L v := (List.cons.inj h).1.symm
    rw [this]
    exact vart_no (o.vV v (by simp)).1
theorem X_head : NH ((nonE r).map L ++ (V.map L ++ tailK K)) (fun a => lets a 4 4) := by
  intro a t h
  by_cases h0 : L r = []
  · rw [nonE_none h0] at h; exact (Y_head o a t h).1
  · rw [nonE_some h0] at h
    have : a = L r := (List.cons.inj h).1.symm
    show lets a 4 4 = false
    rw [this]
    exact regn_no (reg_facts o.r h0).1
theorem parts_cut : cutAll (parts l s r V K) = L (langT l) :: ((nonE s).map L ++ ((nonE r).map L ++ (V.map L ++ tailK K))) := by
  have c1 : Cl (L (langT l)) := cl_lets (lang_facts o.l).1
  have cS : ∀ x ∈ nonE s, Cl (L x) := fun x hx => by
    unfold nonE at hx
    split at hx
    · cases hx
    · rename_i h0; obtain rfl := List.mem_singleton.1 hx; exact cl_lets (scr_facts o.s h0).1
  have cR : ∀ x ∈ nonE r, Cl (L x) := fun x hx => by
    unfold nonE at hx
    split at hx
    · cases hx
    · rename_i h0; obtain rfl := List.mem_singleton.1 hx; exact cl_regn (reg_facts o.r h0).1
  have cU : ∀ x ∈ uK K, Cl (L x) := fun x hx => by
    unfold uK at hx
    split at hx
    · obtain rfl := List.mem_singleton.1 hx
      intro c hc
      obtain rfl := List.mem_singleton.1 (show c ∈ [(117 : UInt8)] from hc)
      rfl
    · cases hx
  unfold parts tailK
  rw [cutAll_app, cutAll_app, cutAll_app, cutAll_app, cutAll_app, cutAll_keys K o.vK, cutAll_clean (a := [langT l]) (fun x hx => by obtain rfl := List.mem_singleton.1 hx; exact c1), cutAll_clean cS, cutAll_clean cR,
    cutAll_clean (a := V) (fun x hx => cl_vart (o.vV x hx).1), cutAll_clean cU]
  simp [List.append_assoc]
theorem parts_clean : ∀ x ∈ cutAll (parts l s r V K), Cl x := by
  rw [parts_cut o]
  intro x hx
  rcases List.mem_cons.1 hx with rfl | hx
  · exact cl_lets (lang_facts o.l).1
  rcases List.mem_append.1 hx with hx | hx
  · unfold nonE at hx
    split at hx
    · cases hx
    · rename_i h0; obtain rfl := List.mem_singleton.1 hx; exact cl_lets (scr_facts o.s h0).1
  rcases List.mem_append.1 hx with hx | hx
  · unfold nonE at hx
    split at hx
    · cases hx
    · rename_i h0; obtain rfl := List.mem_singleton.1 hx; exact cl_regn (reg_facts o.r h0).1
  rcases List.mem_append.1 hx with hx | hx
  · obtain ⟨v, hv, rfl⟩ := List.mem_map.1 hx; exact cl_vart (o.vV v hv).1
  unfold tailK at hx
  rcases List.mem_append.1 hx with hx | hx
  · unfold uK at hx
    split at hx
    · obtain rfl := List.mem_singleton.1 hx
      intro c hc
      obtain rfl := List.mem_singleton.1 (show c ∈ [(117 : UInt8)] from hc)
      rfl
    · cases hx
  · have key : ∀ (M : List Ke), (∀ y ∈ M, KOk y) → x ∈ kpc M → Cl x := by
      intro M
      induction M with
      | nil => intro _ h; cases h
      | cons y M ih =>
        intro hM h
        have hy := hM y (List.mem_cons_self ..)
        rcases List.mem_append.1 (show x ∈ (L y.f0 :: vpc y.f1) ++ kpc M from h) with h | h
        · rcases List.mem_cons.1 h with rfl | h
          · exact cl_sgns hy.1
          · exact cl_sgns ((vpc_ok hy.2.2).1 x h).1
        · exact ih (fun z hz => hM z (List.mem_cons_of_mem _ hz)) h
    exact key K o.vK hx
theorem parts_pieces : T (pieces (joinT (parts l s r V K))) = L (langT l) :: ((nonE s).map L ++ ((nonE r).map L ++ (V.map L ++ tailK K))) := by
  have h := parts_clean o
  have e : parts l s r V K = langT l :: (nonE s ++ nonE r ++ V ++ uK K ++ flatK K) := by unfold parts; simp
  rw [← parts_cut o]
  rw [e] at h ⊢
  exact pieces_join _ _ h
theorem headRP_back {ps : List Pc} (h : T ps = (nonE r).map L ++ (V.map L ++ tailK K)) (l' s' : ByteArray) : ∃ ps', headRP ps l' s' = (true, ps', l', s', r) ∧ T ps' = V.map L ++ tailK K := by
  unfold headRP
  by_cases h0 : L r = []
  · have e : r = ⟨#[]⟩ := L_inj h0
    rw [nonE_none h0] at h
    have hn := now_no (q := regn) h (fun a t ha => (Y_head o a t ha).2) (by rfl)
    rw [if_neg (by rw [hn]; simp), e]
    exact ⟨ps, rfl, h⟩
  · rw [nonE_some h0] at h
    obtain ⟨p, pt, rfl, e1, e2⟩ := T_cons h
    have e3 : p.f0 = r := L_inj e1
    have f := reg_facts o.r h0
    show ∃ ps', (if regn (L p.f0) = true then (true, pt, l', s', upp p.f0) else (true, p :: pt, l', s', E)) = (true, ps', l', s', r) ∧ _
    rw [e3, if_pos f.1, f.2]
    exact ⟨pt, rfl, e2⟩
theorem headSP_back {ps : List Pc} (h : T ps = (nonE s).map L ++ ((nonE r).map L ++ (V.map L ++ tailK K))) (l' : ByteArray) : ∃ ps', headSP ps l' = (true, ps', l', s, r) ∧ T ps' = V.map L ++ tailK K := by
  unfold headSP
  by_cases h0 : L s = []
  · have e : s = ⟨#[]⟩ := L_inj h0
    rw [nonE_none h0] at h
    have hn := now_no (q := fun a => lets a 4 4) h (X_head o) (by rfl)
    rw [if_neg (by rw [hn]; simp)]
    obtain ⟨ps', q, t⟩ := headRP_back o h l' E
    exact ⟨ps', by rw [q, e], t⟩
  · rw [nonE_some h0] at h
    obtain ⟨p, pt, rfl, e1, e2⟩ := T_cons h
    have e3 : p.f0 = s := L_inj e1
    have f := scr_facts o.s h0
    show ∃ ps', (if lets (L p.f0) 4 4 = true then headRP pt l' (titl p.f0) else headRP (p :: pt) l' E) = (true, ps', l', s, r) ∧ _
    rw [e3, if_pos f.1, f.2]
    exact headRP_back o e2 l' s
theorem read_back {ps : List Pc} (h : T ps = L (langT l) :: ((nonE s).map L ++ ((nonE r).map L ++ (V.map L ++ tailK K)))) (en : Int) : readP ps en = (0, 0, some (l, s, r, V, K)) := by
  obtain ⟨p, pt, rfl, e1, e2⟩ := T_cons h
  have e3 : p.f0 = langT l := L_inj e1
  have f := lang_facts o.l
  obtain ⟨p1, q1, t1⟩ := headSP_back o e2 l
  have hh : headP (p :: pt) = (true, p1, l, s, r) := by
    show (if lets (L p.f0) 2 3 = true then headSP pt (keptLang (low p.f0)) else (false, p :: pt, E, E, E)) = _
    rw [e3, if_pos f.1, f.2, q1]
  obtain ⟨p2, q2, t2⟩ := varsP_back V (tailK K) [] p1 t1 o.vV o.pV (by simpa using o.nV) (fun a t ha => by rw [tailK_head K a t ha]; rfl)
  rw [List.nil_append] at q2
  unfold readP
  rw [hh]
  show (if true = true then (if (varsP p1 []).1 = 0 then readUP en (varsP p1 []).2.1 l s r (varsP p1 []).2.2 else _) else _) = _
  rw [if_pos rfl, q2]
  show (if (0 : Int) = 0 then readUP en p2 l s r V else _) = _
  rw [if_pos rfl]
  cases hK : K with
  | nil =>
    rw [hK] at t2
    obtain rfl := T_nil (show T p2 = [] from t2)
    rfl
  | cons x K' =>
    have hlen : 0 < K.length := by rw [hK]; simp
    have t3 : T p2 = L UU :: kpc K := by
      rw [t2]; unfold tailK uK; rw [if_pos hlen]; rfl
    obtain ⟨q, qt, rfl, e5, e6⟩ := T_cons t3
    have e7 : q.f0 = UU := L_inj e5
    have hle : ∀ (M : List Ke), M.length ≤ (kpc M).length := by
      intro M
      induction M with
      | nil => exact Nat.le_refl _
      | cons y M ih =>
        have e : kpc (y :: M) = (L y.f0 :: vpc y.f1) ++ kpc M := rfl
        rw [e, List.length_append, List.length_cons, List.length_cons]; omega
    have hqt : K.length ≤ qt.length + 1 := by
      have h1 := hle K
      rw [← e6] at h1
      unfold T at h1
      rw [List.length_map] at h1; omega
    have hk := keysP_back K (qt.length + 1) [] qt e6 hqt o.vK o.pK (by simpa using o.nK)
    rw [List.nil_append] at hk
    rw [← hK]
    have eu : (low UU).toList = [117] := by rw [toList_L]; rfl
    show (if (low q.f0).toList = [117] then (if (keysP (qt.length + 1) qt []).1 = 0 then (if (keysP (qt.length + 1) qt []).2.2.length = 0 then (nowAt en (keysP (qt.length + 1) qt []).2.1, 70, none) else readEnd en (keysP (qt.length + 1) qt []).2.1 (l, s, r, V, (keysP (qt.length + 1) qt []).2.2)) else (nowAt en (keysP (qt.length + 1) qt []).2.1, (keysP (qt.length + 1) qt []).1, none)) else (q.f1, 70, none)) = _
    rw [e7, if_pos eu, hk]
    show (if (0 : Int) = 0 then (if K.length = 0 then _ else readEnd en [] (l, s, r, V, K)) else _) = _
    rw [if_pos rfl, if_neg (by omega)]
    rfl
set_option maxRecDepth 100000 in
omit o in
theorem root_isS (c : UInt8) : lowB c = 114 ∨ lowB c = 111 ∨ lowB c = 116 → isS c = true := all_u8 (p := fun c => lowB c = 114 ∨ lowB c = 111 ∨ lowB c = 116 → isS c = true) (by decide +kernel) c
theorem parse_back (hs : (joinT (parts l s r V K)).size ≤ 65536) : parseP (joinT (parts l s r V K)) = (l, s, r, V, K, 0, 0) := by
  have hp := parts_pieces o
  obtain ⟨t, ht⟩ : ∃ t, t = joinT (parts l s r V K) := ⟨_, rfl⟩
  rw [← ht] at hs hp ⊢
  unfold parseP
  rw [if_neg (by omega)]
  have hroot : ¬ (low t).toList = [114, 111, 111, 116] := by
    intro h
    rw [toList_L] at h
    unfold low at h
    rw [LS] at h
    have hc : Cl (L t) := by
      intro c hc
      have : lowB c ∈ (L t).map lowB := List.mem_map.2 ⟨c, hc, rfl⟩
      rw [h] at this
      refine root_isS c ?_
      simp at this
      omega
    rw [pieces_cut, cutS_clean hc] at hp
    have e := (List.cons.inj hp).1
    have h1 := (lets_pos (lang_facts o.l).1).2
    have h2 := congrArg List.length h
    rw [List.length_map, e] at h2
    have h3 : (L (langT l)).length = 4 := h2
    omega
  rw [if_neg hroot, read_back o hp]
  show (l, s, r, sortTexts V, sortKeys K, (0 : Int), (0 : Int)) = _
  rw [sort_own o.pV, sortK_own o.pK]
end
theorem sameB_l1 (l s r : ByteArray) (V : List ByteArray) (K : List Ke) (hK : K.length ≤ 64) : ∀ (d i : Nat), K.length - i = d → i ≤ K.length → Ev (fun k => idiomref07_Same.l1 k (i : Int) l s r V K l s r V K) true := by
  intro d
  induction d with
  | zero =>
    intro i hd hi
    refine Ev.step (f := fun _ => some true) (fun k => ?_) (Ev.now _)
    simp only [idiomref07_Same.l1]
    rw [if_neg (by omega)]
  | succ d ih =>
    intro i hd hi
    refine Ev.step (fun k => ?_) (ih (i + 1) (by omega) (by omega))
    simp only [idiomref07_Same.l1]
    rw [if_pos (by omega), if_pos (by omega), if_pos (by omega), if_neg (by simp), w64 (by omega)]
    rfl
theorem sameB_l0 (l s r : ByteArray) (V : List ByteArray) (K : List Ke) (hV : V.length ≤ 64) (hK : K.length ≤ 64) : ∀ (d i : Nat), V.length - i = d → i ≤ V.length → Ev (fun k => idiomref07_Same.l0 k (i : Int) l s r V K l s r V K) true := by
  intro d
  induction d with
  | zero =>
    intro i hd hi
    refine Ev.step (fun k => ?_) (sameB_l1 l s r V K hK K.length 0 (by omega) (by omega))
    simp only [idiomref07_Same.l0]
    rw [if_neg (by omega)]; rfl
  | succ d ih =>
    intro i hd hi
    refine Ev.step (fun k => ?_) (ih (i + 1) (by omega) (by omega))
    simp only [idiomref07_Same.l0]
    rw [if_pos (by omega), if_pos (by omega), if_pos (by omega), if_pos trivial, w64 (by omega)]
    rfl
theorem sameB_f (l s r : ByteArray) (V : List ByteArray) (K : List Ke) (hV : V.length ≤ 64) (hK : K.length ≤ 64) : Ev (fun k => idiomref07_Same.f k l s r V K l s r V K) true := by
  unfold idiomref07_Same.f
  simp only [if_true]
  refine Ev.step (fun k => ?_) (sameB_l0 l s r V K hV hK V.length 0 (by omega) (by omega))
  simp only [idiomref07_Same.j0]
  rw [if_neg (by simp)]; rfl
theorem TagBack {l s r : ByteArray} {V : List ByteArray} {K : List Ke} (z : Sz l s r V K) : Ev (fun k => idiomlaw07_TagBack.f k l s r V K) true := by
  unfold idiomlaw07_TagBack.f
  refine Ev.bind (print_f z) ?_
  by_cases h : (printP l s r V K).2 = 0
  · simp only [if_pos h]
    have hc : checkP l s r V K = 0 ∧ (joinT (parts l s r V K)).size ≤ 65536 := by
      unfold printP at h
      by_cases h1 : checkP l s r V K = 0
      · rw [if_pos h1] at h
        by_cases h2 : (joinT (parts l s r V K)).size ≤ 65536
        · exact ⟨h1, h2⟩
        · rw [if_neg h2] at h; exact absurd h (by decide)
      · rw [if_neg h1] at h; exact absurd h h1
    have o := ok_of hc.1
    have e1 : (printP l s r V K).1 = joinT (parts l s r V K) := by unfold printP; rw [if_pos hc.1, if_pos hc.2]
    rw [e1]
    refine Ev.bind (parse_f _) ?_
    rw [parse_back o hc.2]
    simp only [if_true]
    refine Ev.bind (sameB_f l s r V K o.nV o.nK) ?_
    simp only [if_true]
    exact Ev.bind awake_f1 (Ev.now _)
  · simp only [if_neg h]
    refine Ev.bind (rprint_f z) ?_
    simp only [if_true]
    exact Ev.bind awake_f1 (Ev.now _)
end Go.Proofs.YtphjhbppjakocaaGreatDoor.Pl
