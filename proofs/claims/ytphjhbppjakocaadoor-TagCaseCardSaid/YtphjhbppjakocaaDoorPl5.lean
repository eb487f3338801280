/- What the program's Parse tells, as a plain total function; conditions: none (a longer text is refused first). -/
import Derived.Test.YtphjhbppjakocaaDoorPl4
namespace Go.Proofs.YtphjhbppjakocaaDoor.Pl
open Go.RowKit Go.Proofs.YtphjhbppjakocaaDoorW.PrintWords Go.Proofs.YtphjhbppjakocaaDoor.PTag
set_option linter.unusedVariables false
abbrev E : ByteArray := ⟨#[]⟩
abbrev Hd := Bool × List Pc × ByteArray × ByteArray × ByteArray
def headRP (ps : List Pc) (l s : ByteArray) : Hd := if regn (L (nowT ps)) = true then (true, ps.tail, l, s, upp (nowT ps)) else (true, ps, l, s, E)
def headSP (ps : List Pc) (l : ByteArray) : Hd := if lets (L (nowT ps)) 4 4 = true then headRP ps.tail l (titl (nowT ps)) else headRP ps l E
def headP (ps : List Pc) : Hd := if lets (L (nowT ps)) 2 3 = true then headSP ps.tail (keptLang (low (nowT ps))) else (false, ps, E, E, E)
theorem Sm.tl {ps : List Pc} (h : Sm ps) : Sm ps.tail := by
  cases ps with
  | nil => exact h
  | cons p ps => exact h.tail
theorem lets_pos {l : Bs} {lo hi : Nat} (h : lets l lo hi = true) : lo ≤ l.length ∧ l.length ≤ hi := by
  unfold lets at h; simp only [Bool.and_eq_true, decide_eq_true_eq] at h; exact h.2
theorem sgns_pos {l : Bs} {lo hi : Nat} (h : sgns l lo hi = true) : lo ≤ l.length ∧ l.length ≤ hi := by
  unfold sgns at h; simp only [Bool.and_eq_true, decide_eq_true_eq] at h; exact h.2
theorem headR_f (ps : List Pc) (l s : ByteArray) (h : Sm ps) : Ev (fun k => headR k ps l s) (headRP ps l s) := by
  unfold headR headRP
  refine Ev.bind (region_f (nowT ps) (small_now h)) ?_
  cases hr : regn (L (nowT ps)) with
  | false => simpa using Ev.now _
  | true =>
    cases ps with
    | nil => exact absurd hr (by decide)
    | cons q pt =>
      simp only [if_true]
      rw [upper_f _ (by have := h.head; omega)]
      exact Ev.now _
theorem headS_f (ps : List Pc) (l : ByteArray) (h : Sm ps) : Ev (fun k => headS k ps l) (headSP ps l) := by
  unfold headS headSP
  refine Ev.bind (letters_f (nowT ps) 4 4 (small_now h)) ?_
  cases hr : lets (L (nowT ps)) 4 4 with
  | false => simpa using headR_f ps l E h
  | true =>
    cases ps with
    | nil => exact absurd hr (by decide)
    | cons q pt =>
      have hl : 4 ≤ q.f0.size := by have := (lets_pos hr).1; rw [L_len] at this; exact this
      simp only [if_true]
      rw [title_f _ (by have := h.head; omega) (by omega)]
      exact headR_f pt l (titl q.f0) h.tail
theorem head_f (ps : List Pc) (h : Sm ps) : Ev (fun k => headF k ps) (headP ps) := by
  unfold headF headP
  refine Ev.bind (letters_f (nowT ps) 2 3 (small_now h)) ?_
  cases hr : lets (L (nowT ps)) 2 3 with
  | false => simpa using Ev.now _
  | true =>
    cases ps with
    | nil => exact absurd hr (by decide)
    | cons q pt =>
      simp only [if_true]
      rw [lowerF _ h.head]
      exact headS_f pt _ h.tail
theorem headP_sm (ps : List Pc) (h : Sm ps) : Sm (headP ps).2.1 ∧ (headP ps).2.1.length ≤ ps.length := by
  have hr : ∀ (qs : List Pc) (l s : ByteArray), Sm qs → Sm (headRP qs l s).2.1 ∧ (headRP qs l s).2.1.length ≤ qs.length := by
    intro qs l s hq
    unfold headRP
    split
    · exact ⟨hq.tl, by simp only [List.length_tail]; omega⟩
    · exact ⟨hq, Nat.le_refl _⟩
  have hs : ∀ (qs : List Pc) (l : ByteArray), Sm qs → Sm (headSP qs l).2.1 ∧ (headSP qs l).2.1.length ≤ qs.length := by
    intro qs l hq
    unfold headSP
    split
    · have := hr qs.tail l (titl (nowT qs)) hq.tl
      rw [List.length_tail] at this
      exact ⟨this.1, by omega⟩
    · exact hr _ _ _ hq
  unfold headP
  split
  · have := hs ps.tail (keptLang (low (nowT ps))) h.tl
    rw [List.length_tail] at this
    exact ⟨this.1, by omega⟩
  · exact ⟨h, Nat.le_refl _⟩
def readUP (en : Int) (rest : List Pc) (l s r : ByteArray) (vs : List ByteArray) : ReadRes := match rest with
  | [] => (0, 0, some (l, s, r, vs, []))
  | p :: pt => if (low p.f0).toList = [117] then (if (keysP (pt.length + 1) pt []).1 = 0 then (if (keysP (pt.length + 1) pt []).2.2.length = 0 then (nowAt en (keysP (pt.length + 1) pt []).2.1, 70, none) else readEnd en (keysP (pt.length + 1) pt []).2.1 (l, s, r, vs, (keysP (pt.length + 1) pt []).2.2)) else (nowAt en (keysP (pt.length + 1) pt []).2.1, (keysP (pt.length + 1) pt []).1, none)) else (p.f1, 70, none)
def readP (ps : List Pc) (en : Int) : ReadRes :=
  if (headP ps).1 = true then (if (varsP (headP ps).2.1 []).1 = 0 then readUP en (varsP (headP ps).2.1 []).2.1 (headP ps).2.2.1 (headP ps).2.2.2.1 (headP ps).2.2.2.2 (varsP (headP ps).2.1 []).2.2 else (nowAt en (varsP (headP ps).2.1 []).2.1, (varsP (headP ps).2.1 []).1, none)) else (nowAt en (headP ps).2.1, 70, none)
theorem readU_f (en : Int) (rest : List Pc) (l s r : ByteArray) (vs : List ByteArray) (h : Sm rest) (hl : rest.length ≤ 65537) : Ev (fun k => readU k k en rest l s r vs) (readUP en rest l s r vs) := by
  cases rest with
  | nil => exact Ev.now _
  | cons p pt =>
    simp only [readU, readUP]
    rw [lowerF _ h.head]
    simp only [Option.bind_some]
    by_cases hu : (low p.f0).toList = [117]
    · simp only [if_pos hu]
      rw [List.length_cons] at hl
      obtain ⟨K, hK⟩ := keys_f (pt.length + 1) pt [] h.tail (by omega) (by omega) (by simp)
      refine ⟨K + pt.length + 1, fun k hk => ?_⟩
      show (keysF k k pt []).bind _ = _
      rw [hK k (by omega) k (by omega)]
      simp only [Option.bind_some]
      by_cases h0 : (keysP (pt.length + 1) pt []).1 = 0
      · rw [if_pos h0, if_pos h0]
        by_cases h1 : (keysP (pt.length + 1) pt []).2.2.length = 0
        · rw [if_pos h1, if_pos h1]
        · rw [if_neg h1, if_neg h1]
      · rw [if_neg h0, if_neg h0]
    · simp only [if_neg hu]; exact Ev.now _
theorem read_f (ps : List Pc) (en : Int) (h : Sm ps) (hl : ps.length ≤ 65537) : Ev (fun k => readF k k ps en) (readP ps en) := by
  have hh := headP_sm ps h
  have hv := varsP_sm (headP ps).2.1 [] hh.1
  unfold readF readP
  refine Ev.bind (head_f ps h) ?_
  by_cases hb : (headP ps).1 = true
  · simp only [if_pos hb]
    refine Ev.bind (vars_f _ [] hh.1 (by simp)) ?_
    by_cases h0 : (varsP (headP ps).2.1 []).1 = 0
    · simp only [if_pos h0]
      exact readU_f en _ _ _ _ _ hv.1 (by omega)
    · simp only [if_neg h0]; exact Ev.now _
  · simp only [if_neg hb]; exact Ev.now _
theorem readP_len (ps : List Pc) (en : Int) : ∀ t, (readP ps en).2.2 = some t → t.2.2.2.1.length ≤ 64 ∧ t.2.2.2.2.length ≤ 64 := by
  intro t ht
  have hv := varsP_len (headP ps).2.1 [] (by simp)
  unfold readP at ht
  by_cases hb : (headP ps).1 = true
  · rw [if_pos hb] at ht
    by_cases h0 : (varsP (headP ps).2.1 []).1 = 0
    · rw [if_pos h0] at ht
      unfold readUP at ht
      split at ht
      · obtain rfl := Option.some.inj ht
        exact ⟨hv, by simp⟩
      · rename_i p pt _
        have hk := keysP_len (pt.length + 1) pt [] (by simp)
        by_cases hu : (low p.f0).toList = [117]
        · rw [if_pos hu] at ht
          by_cases h1 : (keysP (pt.length + 1) pt []).1 = 0
          · rw [if_pos h1] at ht
            by_cases h2 : (keysP (pt.length + 1) pt []).2.2.length = 0
            · rw [if_pos h2] at ht; cases ht
            · rw [if_neg h2] at ht
              unfold readEnd at ht
              split at ht
              · obtain rfl := Option.some.inj ht
                exact ⟨hv, hk⟩
              · cases ht
          · rw [if_neg h1] at ht; cases ht
        · rw [if_neg hu] at ht; cases ht
    · rw [if_neg h0] at ht; cases ht
  · rw [if_neg hb] at ht; cases ht
abbrev PRes := ByteArray × ByteArray × ByteArray × List ByteArray × List Ky × Int × Int
/-- What Parse tells. -/
def parseP (s : ByteArray) : PRes := if s.size > 65536 then (E, E, E, [], [], 0, 2) else if (low s).toList = [114, 111, 111, 116] then (E, E, E, [], [], 0, 0) else parseRes (readP (pieces s) (s.size : Int))
theorem pieces_sm (s : ByteArray) (hs : s.size ≤ 65536) : Sm (pieces s) ∧ (pieces s).length ≤ 65537 := by
  refine ⟨fun p hp => Nat.le_trans (pcs_small s _ _ _ p hp) hs, ?_⟩
  have := pcs_len s s.size 0 0
  unfold pieces; omega
theorem parse_f (s : ByteArray) : Ev (fun k => tag_Parse.f k s) (parseP s) := by
  unfold tag_Parse.f parseP
  by_cases h1 : s.size > 65536
  · simp only [if_pos h1]; exact Ev.now _
  · simp only [if_neg h1]
    rw [lowerF _ (by omega)]
    simp only [Option.bind_some]
    by_cases h2 : (low s).toList = [114, 111, 111, 116]
    · simp only [if_pos h2]; exact Ev.now _
    · simp only [if_neg h2]
      have hp := pieces_sm s (by omega)
      refine Ev.bind (split_f s (by omega)) ?_
      simp only [if_pos (show (pieces s).length < 4611686018427387904 by omega)]
      refine Ev.bind (read_f _ _ hp.1 hp.2) ?_
      have hlen := readP_len (pieces s) (s.size : Int)
      refine Ev.bind (a := ()) ?_ (Ev.now _)
      cases hr : (readP (pieces s) (s.size : Int)).2.2 with
      | none => exact Ev.now _
      | some t =>
        have := hlen t hr
        simp only [if_pos (show t.2.2.2.1.length < 4611686018427387904 ∧ t.2.2.2.2.length < 4611686018427387904 by omega)]
        exact Ev.now _
end Go.Proofs.YtphjhbppjakocaaDoor.Pl
