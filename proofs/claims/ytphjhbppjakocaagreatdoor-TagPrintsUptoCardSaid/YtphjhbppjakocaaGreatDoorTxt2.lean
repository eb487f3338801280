/- A tag's text as the document tells it; conditions: texts of at most 1048576 bytes, at most 64 variants and 64 keys. -/
import Derived.Test.YtphjhbppjakocaaGreatDoorTxt1
namespace Go.Proofs.YtphjhbppjakocaaGreatDoor.Pl
open Go.RowKit Go.Proofs.YtphjhbppjakocaaGreatDoorW.PrintWords Go.Proofs.YtphjhbppjakocaaGreatDoor.PTag
set_option linter.unusedVariables false
theorem app_ne {ps : List ByteArray} {x : ByteArray} : ps ++ [x] ≠ [] := by simp
theorem sz_app (a b : ByteArray) : (a ++ b).size = a.size + b.size := by simp
theorem du (a : ByteArray) : a ++ (⟨#[45, 117]⟩ : ByteArray) = a ++ (⟨#[45]⟩ : ByteArray) ++ UU := by
  apply L_inj; rw [L_app, L_app, L_app]; simp [L, UU]
section
variable {l s r : ByteArray} {V : List ByteArray} {K : List Ke} (z : Sz l s r V K) (hK : K.length ≤ 64)
include z hK
theorem rt_l1 : ∀ (ys : List Ke) (i : Nat) (ps : List ByteArray), K.drop i = ys → i ≤ K.length → Bd (100 + 3 * i) ps → ps ≠ [] → (i = 0 → ys = K) →
    Ev (fun k => idiomref07_text.l1 k (joinT ps) (i : Int) l s r V K) (joinT ((if i = 0 then ps ++ uK K else ps) ++ flatK ys))
  | [], i, ps, h, hi, hb, hne, h00 => by
    have hi2 : K.length ≤ i := List.drop_eq_nil_iff.1 h
    have e : (if i = 0 then ps ++ uK K else ps) = ps := by
      split
      · rename_i h1
        have : K = [] := (h00 h1).symm
        subst this
        simp [uK]
      · rfl
    rw [e]
    refine Ev.step (f := fun _ => some (joinT ps)) (fun k => ?_) (by simpa [flatK] using Ev.now _)
    simp only [idiomref07_text.l1]
    rw [if_neg (by omega)]
  | x :: ys, i, ps, h, hi, hb, hne, h00 => by
    obtain ⟨hi2, hx, hn⟩ := drop_cons h
    have hq := z.vK x (List.mem_of_getElem? hx)
    have hw : wrap64 ((i : Int) + 1) = ((i + 1 : Nat) : Int) := w64 (by omega)
    have j5 : ∀ qs, Bd (101 + 3 * i) qs → qs ≠ [] → Ev (fun k => idiomref07_text.j5 k (joinT qs) (i : Int) l s r V K) (joinT (qs ++ flatK (x :: ys))) := by
      intro qs hqs hqn
      have hs0 := joinT_size hqs (by omega)
      have e1 := joinT_app hqn x.f0
      have b1 : Bd (102 + 3 * i) (qs ++ [x.f0]) := (hqs.app hq.1).le (by omega)
      have hs1 := joinT_size b1 (by omega)
      have hp1 : (joinT qs ++ (⟨#[45]⟩ : ByteArray)).size = (joinT qs).size + 1 := sz_app _ _
      unfold flatK
      by_cases h0 : L x.f1 = []
      · have h0' : x.f1.toList = [] := by rw [toList_L]; exact h0
        have ih := rt_l1 ys (i + 1) (qs ++ [x.f0]) hn (by omega) (b1.le (by omega)) app_ne (fun h => by omega)
        rw [if_neg (by omega)] at ih
        rw [nonE_none h0]
        rw [List.append_assoc] at ih
        refine Ev.step (fun k => ?_) ih
        simp only [idiomref07_text.j5]
        rw [if_pos (by omega), if_pos (by omega), if_pos (by omega), rdK_c hx, if_pos (by omega), if_pos h0', hw, e1]
      · have h0' : ¬ x.f1.toList = [] := by rw [toList_L]; exact h0
        have e2 := joinT_app (ps := qs ++ [x.f0]) app_ne x.f1
        have hp2 : (joinT (qs ++ [x.f0]) ++ (⟨#[45]⟩ : ByteArray)).size = (joinT (qs ++ [x.f0])).size + 1 := sz_app _ _
        have ih := rt_l1 ys (i + 1) (qs ++ [x.f0] ++ [x.f1]) hn (by omega) ((b1.app hq.2).le (by omega)) app_ne (fun h => by omega)
        rw [if_neg (by omega)] at ih
        rw [nonE_some h0]
        have e : qs ++ [x.f0] ++ [x.f1] ++ flatK ys = qs ++ (x.f0 :: [x.f1] ++ flatK ys) := by simp
        rw [e] at ih
        refine Ev.step (fun k => ?_) ih
        simp only [idiomref07_text.j5]
        rw [if_pos (by omega), if_pos (by omega), if_pos (by omega), rdK_c hx, if_pos (by omega), if_neg h0', if_pos (by rw [← e1]; omega), if_pos (by rw [← e1]; omega), ← e1, ← e2, hw]
    have hs := joinT_size hb (by omega)
    by_cases hi0 : i = 0
    · have hu : uK K = [UU] := if_pos (by omega)
      rw [if_pos hi0, hu]
      refine Ev.step (fun k => ?_) (j5 (ps ++ [UU]) ((hb.app (x := UU) (by decide)).le (by omega)) app_ne)
      simp only [idiomref07_text.l1]
      rw [if_pos (by omega), if_pos (by omega), if_pos (by omega), du, ← joinT_app hne]
    · rw [if_neg hi0]
      refine Ev.step (fun k => ?_) (j5 ps (hb.le (by omega)) hne)
      simp only [idiomref07_text.l1]
      rw [if_pos (by omega), if_neg (by omega)]
variable (hV : V.length ≤ 64)
include hV
theorem rt_l0 : ∀ (ys : List ByteArray) (i : Nat) (ps : List ByteArray), V.drop i = ys → i ≤ V.length → Bd (3 + i) ps → ps ≠ [] →
    Ev (fun k => idiomref07_text.l0 k (joinT ps) (i : Int) l s r V K) (joinT ((ps ++ ys ++ uK K) ++ flatK K))
  | [], i, ps, h, hi, hb, hne => by
    have hi2 : V.length ≤ i := List.drop_eq_nil_iff.1 h
    rw [List.append_nil]
    have := rt_l1 z hK K 0 ps rfl (by omega) (hb.le (by omega)) hne (fun _ => rfl)
    rw [if_pos rfl] at this
    refine Ev.step (fun k => ?_) this
    simp only [idiomref07_text.l0]
    rw [if_neg (by omega)]; rfl
  | x :: ys, i, ps, h, hi, hb, hne => by
    obtain ⟨hi2, hx, hn⟩ := drop_cons h
    have hq := z.vV x (List.mem_of_getElem? hx)
    have hw : wrap64 ((i : Int) + 1) = ((i + 1 : Nat) : Int) := w64 (by omega)
    have ih := rt_l0 ys (i + 1) (ps ++ [x]) hn (by omega) ((hb.app hq).le (by omega)) app_ne
    have e : ps ++ [x] ++ ys ++ uK K = ps ++ (x :: ys) ++ uK K := by simp
    rw [e] at ih
    have hs := joinT_size hb (by omega)
    have hp1 : (joinT ps ++ (⟨#[45]⟩ : ByteArray)).size = (joinT ps).size + 1 := sz_app _ _
    refine Ev.step (fun k => ?_) ih
    simp only [idiomref07_text.l0]
    rw [if_pos (by omega), if_pos (by omega), if_pos (by omega), rdOf_c hx, if_pos (by omega), hw, joinT_app hne]
theorem rtext_f : Ev (fun k => idiomref07_text.f k l s r V K) (joinT (parts l s r V K)) := by
  have t2 : ∀ ps, Bd 3 ps → ps ≠ [] → Ev (fun k => idiomref07_text.j2 k (joinT ps) l s r V K) (joinT ((ps ++ V ++ uK K) ++ flatK K)) := fun ps hb hne =>
    Ev.step (fun k => by simp only [idiomref07_text.j2]; rfl) (rt_l0 z hK hV V 0 ps rfl (by omega) hb hne)
  have t1 : ∀ ps, Bd 2 ps → ps ≠ [] → Ev (fun k => idiomref07_text.j1 k (joinT ps) l s r V K) (joinT ((ps ++ nonE r ++ V ++ uK K) ++ flatK K)) := by
    intro ps hb hne
    have hs := joinT_size hb (by omega)
    have hp1 : (joinT ps ++ (⟨#[45]⟩ : ByteArray)).size = (joinT ps).size + 1 := sz_app _ _
    have hr := z.r
    by_cases h0 : L r = []
    · have h0' : r.toList = [] := by rw [toList_L]; exact h0
      rw [nonE_none h0, List.append_nil]
      refine Ev.step (fun k => ?_) (t2 ps (hb.le (by omega)) hne)
      simp only [idiomref07_text.j1]
      rw [if_pos h0']
    · have h0' : ¬ r.toList = [] := by rw [toList_L]; exact h0
      rw [nonE_some h0]
      refine Ev.step (fun k => ?_) (t2 _ (hb.app z.r) app_ne)
      simp only [idiomref07_text.j1]
      rw [if_neg h0', if_pos (by omega), if_pos (by omega), joinT_app hne]
  have t0 : ∀ ps, Bd 1 ps → ps ≠ [] → Ev (fun k => idiomref07_text.j0 k (joinT ps) l s r V K) (joinT ((ps ++ nonE s ++ nonE r ++ V ++ uK K) ++ flatK K)) := by
    intro ps hb hne
    have hs := joinT_size hb (by omega)
    have hp1 : (joinT ps ++ (⟨#[45]⟩ : ByteArray)).size = (joinT ps).size + 1 := sz_app _ _
    have hr := z.s
    by_cases h0 : L s = []
    · have h0' : s.toList = [] := by rw [toList_L]; exact h0
      rw [nonE_none h0, List.append_nil]
      refine Ev.step (fun k => ?_) (t1 ps (hb.le (by omega)) hne)
      simp only [idiomref07_text.j0]
      rw [if_pos h0']
    · have h0' : ¬ s.toList = [] := by rw [toList_L]; exact h0
      rw [nonE_some h0]
      refine Ev.step (fun k => ?_) (t1 _ (hb.app z.s) app_ne)
      simp only [idiomref07_text.j0]
      rw [if_neg h0', if_pos (by omega), if_pos (by omega), joinT_app hne]
  have b0 : ∀ x : ByteArray, x.size ≤ 1048576 → Bd 1 [x] := fun x hx => ⟨by simp, fun y hy => by obtain rfl := List.mem_singleton.1 hy; exact hx⟩
  have one : ∀ x : ByteArray, joinT [x] = x := fun x => by
    apply L_inj; unfold joinT; rw [LS]; simp [Lib.join]
  unfold idiomref07_text.f parts langT
  by_cases h0 : L l = []
  · have h0' : l.toList = [] := by rw [toList_L]; exact h0
    rw [if_pos h0]
    simp only [if_pos h0']
    have := t0 [UND] (b0 UND (by decide)) (by simp)
    rw [one] at this
    exact this
  · have h0' : ¬ l.toList = [] := by rw [toList_L]; exact h0
    rw [if_neg h0]
    simp only [if_neg h0']
    have := t0 [l] (b0 l z.l) (by simp)
    rw [one] at this
    exact this
end
end Go.Proofs.YtphjhbppjakocaaGreatDoor.Pl
