/- Letters' size, and which sign stands between, make no difference to what Parse tells; conditions: none. -/
import Derived.Test.YtphjhbppjakocaaDoorCase1
import Derived.Test.YtphjhbppjakocaaDoorPCase9
namespace Go.Proofs.YtphjhbppjakocaaDoor.Pl
open Go.RowKit Go.Proofs.YtphjhbppjakocaaDoorW.PrintWords Go.Proofs.YtphjhbppjakocaaDoor.PTag
set_option linter.unusedVariables false
/-- A byte without its size, and without which sign it is. -/
def cB (c : UInt8) : UInt8 := if sepB c = true then 45 else lowB c
set_option maxRecDepth 100000 in
theorem cB_cls (c : UInt8) : cB (turnB c) = cB c ∧ sepB c = decide (cB c = 45) ∧ (sepB c = true → lowB c = 45 ∨ lowB c = 95) :=
  all_u8 (p := fun c => cB (turnB c) = cB c ∧ sepB c = decide (cB c = 45) ∧ (sepB c = true → lowB c = 45 ∨ lowB c = 95)) (by decide +kernel) c
theorem cB_not {c : UInt8} (h : sepB c = false) : cB c = lowB c := by unfold cB; rw [h]; rfl
def canon (s : ByteArray) : Bs := (L s).map cB
theorem canon_len (s : ByteArray) : (canon s).length = s.size := by unfold canon; rw [List.length_map, L_len]
/-- The pieces in small letters, out of the canonical text. -/
def pcsC (l : Bs) : Nat → Nat → Nat → List Pc
  | 0, i, b => [⟨S ((l.take i).drop b), (b : Int)⟩]
  | d + 1, i, b => if l.getD i 0 = 45 then ⟨S ((l.take i).drop b), (b : Int)⟩ :: pcsC l d (i + 1) (i + 1) else pcsC l d (i + 1) b
theorem map_not {l : Bs} (h : ∀ c ∈ l, sepB c = false) : l.map lowB = l.map cB := by
  induction l with
  | nil => rfl
  | cons c l ih => rw [List.map_cons, List.map_cons, cB_not (h c (List.mem_cons_self ..)), ih (fun x hx => h x (List.mem_cons_of_mem _ hx))]
theorem low_piece (s : ByteArray) (i b : Nat) (h : ∀ c ∈ ((L s).take i).drop b, sepB c = false) : low (s.extract b i) = S (((canon s).take i).drop b) := by
  apply L_inj
  rw [LS]
  refine (L_low _).trans ?_
  refine ((congrArg (List.map lowB) (L_ext s b i)).trans (map_not h)).trans ?_
  unfold canon
  rw [List.map_drop, List.map_take]
theorem pcs_nrm (s : ByteArray) : ∀ (d i b : Nat), s.size - i = d → i ≤ s.size → b ≤ i → (∀ c ∈ ((L s).take i).drop b, sepB c = false) → (pcs s d i b).map nrm = pcsC (canon s) d i b := by
  intro d
  induction d with
  | zero =>
    intro i b hd hi hb h
    show [nrm ⟨s.extract b i, (b : Int)⟩] = [⟨S (((canon s).take i).drop b), (b : Int)⟩]
    unfold nrm
    rw [low_piece s i b h]
  | succ d ih =>
    intro i b hd hi hb h
    have hlt : i < (L s).length := by rw [L_len]; omega
    have hg : (canon s).getD i 0 = cB ((L s).getD i 0) := by
      unfold canon
      rw [List.getD_eq_getElem?_getD, List.getD_eq_getElem?_getD, List.getElem?_map, List.getElem?_eq_getElem hlt]; rfl
    have hs := (cB_cls ((L s).getD i 0)).2.1
    unfold pcs pcsC
    rw [hg]
    by_cases hc : sepB ((L s).getD i 0) = true
    · have h45 : cB ((L s).getD i 0) = 45 := by rw [hc] at hs; exact of_decide_eq_true hs.symm
      rw [if_pos hc, if_pos h45, List.map_cons]
      have e1 : nrm ⟨s.extract b i, (b : Int)⟩ = ⟨S (((canon s).take i).drop b), (b : Int)⟩ := by
        unfold nrm
        rw [low_piece s i b h]
      rw [e1, ih (i + 1) (i + 1) (by omega) (by omega) (Nat.le_refl _) (fun c hm => by
        rw [List.drop_eq_nil_of_le (by rw [List.length_take]; omega)] at hm; cases hm)]
    · have h45 : ¬ cB ((L s).getD i 0) = 45 := fun he => hc (hs.trans (decide_eq_true he))
      rw [if_neg hc, if_neg h45]
      refine ih (i + 1) b (by omega) (by omega) (by omega) (fun c hm => ?_)
      rw [List.take_succ_eq_append_getElem hlt, List.drop_append_of_le_length (by rw [List.length_take]; omega)] at hm
      rcases List.mem_append.1 hm with h1 | h1
      · exact h c h1
      · obtain rfl := List.mem_singleton.1 h1
        have : (L s).getD i 0 = (L s)[i] := by rw [List.getD_eq_getElem?_getD, List.getElem?_eq_getElem hlt]; rfl
        rw [this] at hc
        exact Bool.eq_false_iff.mpr hc
theorem pieces_nrm (s : ByteArray) : (pieces s).map nrm = pcsC (canon s) s.size 0 0 :=
  pcs_nrm s s.size 0 0 (by omega) (by omega) (Nat.le_refl _) (fun c hm => by simp at hm)
theorem map_root : ∀ (l R : Bs), (∀ c ∈ R, c ≠ 45 ∧ c ≠ 95) → (l.map lowB = R ↔ l.map cB = R)
  | [], R, _ => Iff.rfl
  | c :: l, [], _ => by simp
  | c :: l, r :: R, h => by
    have ih := map_root l R (fun x hx => h x (List.mem_cons_of_mem _ hx))
    have hr := h r (List.mem_cons_self ..)
    have h1 : lowB c = r ↔ cB c = r := by
      cases hs : sepB c with
      | false => rw [cB_not hs]
      | true =>
        have h2 := (cB_cls c).2.2 hs
        have h3 : cB c = 45 := by unfold cB; rw [if_pos hs]
        constructor
        · intro e; rw [e] at h2; exact absurd h2 (by simp [hr.1, hr.2])
        · intro e; rw [h3] at e; exact absurd e.symm hr.1
    rw [List.map_cons, List.map_cons, List.cons.injEq, List.cons.injEq, h1, ih]
theorem root_canon (s : ByteArray) : (low s).toList = [114, 111, 111, 116] ↔ canon s = [114, 111, 111, 116] := by
  rw [toList_L, L_low]
  exact map_root (L s) [114, 111, 111, 116] (by decide)
theorem parseP_canon {a b : ByteArray} (h : canon a = canon b) : parseP a = parseP b := by
  have hz : a.size = b.size := by rw [← canon_len, ← canon_len, h]
  unfold parseP
  rw [hz]
  by_cases h1 : b.size > 65536
  · rw [if_pos h1, if_pos h1]
  · rw [if_neg h1, if_neg h1]
    by_cases h2 : (low b).toList = [114, 111, 111, 116]
    · rw [if_pos h2, if_pos ((root_canon a).2 (h.trans ((root_canon b).1 h2)))]
    · rw [if_neg h2, if_neg (fun h3 => h2 ((root_canon b).2 (h.symm.trans ((root_canon a).1 h3))))]
      rw [← readP_nrm (pieces a), ← readP_nrm (pieces b), pieces_nrm, pieces_nrm, h, hz]
theorem mapIdx_c (g : Nat → UInt8 → UInt8) (hg : ∀ i c, cB (g i c) = cB c) (l : Bs) : (l.mapIdx g).map cB = l.map cB := by
  apply List.ext_getElem (by simp)
  intro i h1 h2
  simp only [List.getElem_map, List.getElem_mapIdx, hg]
theorem turned_f (s : ByteArray) (n : Int) (hs : s.size ≤ 9223372036854775807) : ∃ t, idiomlaw07_turned.f s n = some t ∧ canon t = canon s := by
  unfold idiomlaw07_turned.f
  rw [if_pos hs]
  refine ⟨_, rfl, ?_⟩
  show (L (S _)).map cB = _
  rw [LS]
  refine mapIdx_c _ (fun i c => ?_) _
  unfold idiomlaw07_turned.g
  split
  · rfl
  · exact (cB_cls c).1
end Go.Proofs.YtphjhbppjakocaaDoor.Pl
