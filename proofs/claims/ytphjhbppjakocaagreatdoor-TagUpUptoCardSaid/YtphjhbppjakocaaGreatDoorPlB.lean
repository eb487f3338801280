/- Several texts of this claim in one: Txt1,Txt2,Awk,Wth1,SameG,Chn1,Chn2; conditions: those that each theorem states. -/
import Derived.Test.YtphjhbppjakocaaGreatDoorPlA
import Derived.Test.YtphjhbppjakocaaGreatDoorPU15
import Derived.Test.YtphjhbppjakocaaGreatDoorPU19
import Derived.Test.YtphjhbppjakocaaGreatDoorPU14
import Derived.Test.YtphjhbppjakocaaGreatDoorPU18
import Derived.Test.YtphjhbppjakocaaGreatDoorPU24
import Derived.Test.YtphjhbppjakocaaGreatDoorPU22
import Derived.Test.YtphjhbppjakocaaGreatDoorQMapsU
import Derived.Test.YtphjhbppjakocaaGreatDoorQUp
namespace Go.Proofs.YtphjhbppjakocaaGreatDoor.Pl
open Go.RowKit Go.Proofs.YtphjhbppjakocaaGreatDoorW.PrintWords Go.Proofs.YtphjhbppjakocaaGreatDoor.PTag
set_option linter.unusedVariables false
theorem L_app (a b : ByteArray) : L (a ++ b) = L a ++ L b := by simp [L]
def joinT (v : List ByteArray) : ByteArray := S (Lib.join (v.map L) [45])
theorem joinT_lenB : ∀ (v : List ByteArray), (∀ x ∈ v, x.size ≤ 1048576) → (Lib.join (v.map L) [45]).length ≤ v.length * 1048577
  | [], _ => by simp [Lib.join]
  | [a], h => by
    have := h a (by simp)
    simp [Lib.join]; omega
  | a :: b :: r, h => by
    have ih := joinT_lenB (b :: r) (fun x hx => h x (List.mem_cons_of_mem _ hx))
    have ha := h a (by simp)
    have : Lib.join ((a :: b :: r).map L) [45] = L a ++ [45] ++ Lib.join ((b :: r).map L) [45] := by
      simp [Lib.join, List.intercalate]
    rw [this, List.length_append, List.length_append, L_len]
    simp only [List.length_cons, List.length_nil] at ih ⊢
    omega
def Bd (n : Nat) (ps : List ByteArray) : Prop := ps.length ≤ n ∧ ∀ x ∈ ps, x.size ≤ 1048576
theorem Bd.app {n : Nat} {ps : List ByteArray} (h : Bd n ps) {x : ByteArray} (hx : x.size ≤ 1048576) : Bd (n + 1) (ps ++ [x]) := ⟨by rw [List.length_append]; have := h.1; simp; omega, fun y hy => by
  rcases List.mem_append.1 hy with h1 | h1
  · exact h.2 y h1
  · obtain rfl := List.mem_singleton.1 h1; exact hx⟩
theorem Bd.le {n m : Nat} {ps : List ByteArray} (h : Bd n ps) (hm : n ≤ m) : Bd m ps := ⟨Nat.le_trans h.1 hm, h.2⟩
theorem joinT_size {n : Nat} {ps : List ByteArray} (h : Bd n ps) (hn : n ≤ 1000) : (joinT ps).size ≤ 1048577000 := by
  unfold joinT
  rw [S_size]
  have := joinT_lenB ps h.2
  have h1 : ps.length * 1048577 ≤ 1000 * 1048577 := Nat.mul_le_mul_right _ (Nat.le_trans h.1 hn)
  omega
theorem join_fB (v : List ByteArray) {n : Nat} (h : Bd n v) (hn : n ≤ 1000) : strings_Join.f v ⟨#[45]⟩ = some (joinT v) := by
  have h0 := h.1
  have := joinT_lenB v h.2
  have h1 : v.length * 1048577 ≤ 1000 * 1048577 := Nat.mul_le_mul_right _ (Nat.le_trans h.1 hn)
  unfold strings_Join.f
  rw [if_pos (by omega)]
  have e2 : (Lib.join (v.map (·.data.toList)) (⟨#[45]⟩ : ByteArray).data.toList) = Lib.join (v.map L) [45] := rfl
  rw [e2, if_pos (by omega)]; rfl
theorem joinT_app {ps : List ByteArray} (h : ps ≠ []) (x : ByteArray) : joinT (ps ++ [x]) = joinT ps ++ (⟨#[45]⟩ : ByteArray) ++ x := by
  apply L_inj
  rw [L_app, L_app]
  unfold joinT
  rw [LS, LS]
  cases ps with
  | nil => exact absurd rfl h
  | cons a r =>
    rw [List.cons_append, List.map_cons, List.map_cons, Lib.join_cons, Lib.join_cons, List.map_append]
    simp [Lib.joinTail, L]
def UND : ByteArray := ⟨#[117, 110, 100]⟩
def UU : ByteArray := ⟨#[117]⟩
def nonE (x : ByteArray) : List ByteArray := if L x = [] then [] else [x]
def flatK : List Ke → List ByteArray
  | [] => []
  | x :: ks => (x.f0 :: nonE x.f1) ++ flatK ks
def langT (l : ByteArray) : ByteArray := if L l = [] then UND else l
def uK (K : List Ke) : List ByteArray := if K.length > 0 then [UU] else []
def parts (l s r : ByteArray) (V : List ByteArray) (K : List Ke) : List ByteArray := ([langT l] ++ nonE s ++ nonE r ++ V ++ uK K) ++ flatK K
theorem nonE_none {x : ByteArray} (h : L x = []) : nonE x = [] := if_pos h
theorem nonE_some {x : ByteArray} (h : ¬ L x = []) : nonE x = [x] := if_neg h
theorem tt_l0 (K : List Ke) (hK : K.length ≤ 64) (hz : ∀ x ∈ K, x.f0.size ≤ 1048576 ∧ x.f1.size ≤ 1048576) : ∀ (ys : List Ke) (i : Nat) (ps : List ByteArray), K.drop i = ys → i ≤ K.length → Bd (100 + 2 * i) ps →
    Ev (fun k => tag_text.l0 k ps K (K.length : Int) (i : Int)) (joinT (ps ++ flatK ys))
  | [], i, ps, h, hi, hb => by
    have hi2 : K.length ≤ i := List.drop_eq_nil_iff.1 h
    refine Ev.step (f := fun _ => some (joinT ps)) (fun k => ?_) (by simpa [flatK] using Ev.now _)
    simp only [tag_text.l0]
    rw [if_neg (by omega), join_fB ps hb (by omega)]; rfl
  | x :: ys, i, ps, h, hi, hb => by
    obtain ⟨hi2, hx, hn⟩ := drop_cons h
    have hq := hz x (List.mem_of_getElem? hx)
    have hw : wrap64 ((i : Int) + 1) = ((i + 1 : Nat) : Int) := w64 (by omega)
    have b1 : Bd (101 + 2 * i) (ps ++ [x.f0]) := (hb.app hq.1).le (by omega)
    have l1 := hb.1
    have l2 := b1.1
    unfold flatK
    by_cases h0 : L x.f1 = []
    · have h0' : x.f1.toList = [] := by rw [toList_L]; exact h0
      have ih := tt_l0 K hK hz ys (i + 1) (ps ++ [x.f0]) hn (by omega) (b1.le (by omega))
      rw [nonE_none h0]
      rw [List.append_assoc] at ih
      refine Ev.step (fun k => ?_) ih
      simp only [tag_text.l0]
      rw [if_pos (by omega), if_pos (by omega), if_pos (by omega), if_pos (by omega), rdK_c hx]
      simp only [Option.bind_some]
      rw [if_pos h0', hw]
    · have h0' : ¬ x.f1.toList = [] := by rw [toList_L]; exact h0
      have ih := tt_l0 K hK hz ys (i + 1) (ps ++ [x.f0] ++ [x.f1]) hn (by omega) ((b1.app hq.2).le (by omega))
      rw [nonE_some h0]
      have e : ps ++ [x.f0] ++ [x.f1] ++ flatK ys = ps ++ (x.f0 :: [x.f1] ++ flatK ys) := by simp
      rw [e] at ih
      refine Ev.step (fun k => ?_) ih
      simp only [tag_text.l0]
      rw [if_pos (by omega), if_pos (by omega), if_pos (by omega), if_pos (by omega), rdK_c hx]
      simp only [Option.bind_some]
      rw [if_neg h0', if_pos (by omega), hw]
theorem text_f {l s r : ByteArray} {V : List ByteArray} {K : List Ke} (z : Sz l s r V K) (hV : V.length ≤ 64) (hK : K.length ≤ 64) : Ev (fun k => tag_text.f k l s r V K) (joinT (parts l s r V K)) := by
  have t3 : ∀ ps, Bd 100 ps → Ev (fun k => tag_text.j3 k ps l s r V K) (joinT (ps ++ flatK K)) := fun ps hb =>
    Ev.step (f := fun k => tag_text.l0 k ps K (K.length : Int) 0) (fun k => by simp only [tag_text.j3]) (tt_l0 K hK z.vK K 0 ps rfl (by omega) hb)
  have t2 : ∀ ps, Bd 3 ps → Ev (fun k => tag_text.j2 k ps l s r V K) (joinT ((ps ++ V ++ uK K) ++ flatK K)) := by
    intro ps hb
    have hl := hb.1
    have b1 : Bd 67 (ps ++ V) := ⟨by rw [List.length_append]; omega, fun x hx => by
      rcases List.mem_append.1 hx with h1 | h1
      · exact hb.2 x h1
      · exact z.vV x h1⟩
    have hl1 := b1.1
    unfold uK
    by_cases h0 : K.length > 0
    · rw [if_pos h0]
      refine Ev.step (fun k => ?_) (t3 _ ((b1.app (x := UU) (by decide)).le (by omega)))
      simp only [tag_text.j2]
      rw [if_pos (by omega)]
      simp only [Option.bind_some]
      rw [if_pos (by omega), if_pos (by omega)]; rfl
    · rw [if_neg h0, List.append_nil]
      refine Ev.step (fun k => ?_) (t3 _ (b1.le (by omega)))
      simp only [tag_text.j2]
      rw [if_pos (by omega)]
      simp only [Option.bind_some]
      rw [if_neg (by omega)]
  have t1 : ∀ ps, Bd 2 ps → Ev (fun k => tag_text.j1 k ps l s r V K) (joinT ((ps ++ nonE r ++ V ++ uK K) ++ flatK K)) := by
    intro ps hb
    have hl := hb.1
    by_cases h0 : L r = []
    · have h0' : r.toList = [] := by rw [toList_L]; exact h0
      rw [nonE_none h0, List.append_nil]
      refine Ev.step (fun k => ?_) (t2 ps (hb.le (by omega)))
      simp only [tag_text.j1]
      rw [if_pos h0']
    · have h0' : ¬ r.toList = [] := by rw [toList_L]; exact h0
      rw [nonE_some h0]
      refine Ev.step (fun k => ?_) (t2 _ (hb.app z.r))
      simp only [tag_text.j1]
      rw [if_neg h0', if_pos (by omega)]
  have t0 : ∀ ps, Bd 1 ps → Ev (fun k => tag_text.j0 k ps l s r V K) (joinT ((ps ++ nonE s ++ nonE r ++ V ++ uK K) ++ flatK K)) := by
    intro ps hb
    have hl := hb.1
    by_cases h0 : L s = []
    · have h0' : s.toList = [] := by rw [toList_L]; exact h0
      rw [nonE_none h0, List.append_nil]
      refine Ev.step (fun k => ?_) (t1 ps (hb.le (by omega)))
      simp only [tag_text.j0]
      rw [if_pos h0']
    · have h0' : ¬ s.toList = [] := by rw [toList_L]; exact h0
      rw [nonE_some h0]
      refine Ev.step (fun k => ?_) (t1 _ (hb.app z.s))
      simp only [tag_text.j0]
      rw [if_neg h0', if_pos (by omega)]
  have b0 : ∀ x : ByteArray, x.size ≤ 1048576 → Bd 1 [x] := fun x hx => ⟨by simp, fun y hy => by obtain rfl := List.mem_singleton.1 hy; exact hx⟩
  unfold tag_text.f parts langT
  simp only [Option.bind_some]
  by_cases h0 : L l = []
  · have h0' : l.toList = [] := by rw [toList_L]; exact h0
    rw [if_pos h0]
    simp only [if_pos h0', if_pos (show (0 : Int) < (([l] : List ByteArray).length : Int) by simp)]
    exact t0 [UND] (b0 UND (by decide))
  · have h0' : ¬ l.toList = [] := by rw [toList_L]; exact h0
    rw [if_neg h0]
    simp only [if_neg h0']
    exact t0 [l] (b0 l z.l)
end Go.Proofs.YtphjhbppjakocaaGreatDoor.Pl
namespace Go.Proofs.YtphjhbppjakocaaGreatDoor.Pl
open Go.RowKit Go.Proofs.YtphjhbppjakocaaGreatDoorW.PrintWords Go.Proofs.YtphjhbppjakocaaGreatDoor.PTag
set_option linter.unusedVariables false
theorem app_ne {ps : List ByteArray} {x : ByteArray} : ps ++ [x] ≠ [] := by simp
theorem sz_app (a b : ByteArray) : (a ++ b).size = a.size + b.size := by simp
theorem du (a : ByteArray) : a ++ (⟨#[45, 117]⟩ : ByteArray) = a ++ (⟨#[45]⟩ : ByteArray) ++ UU := by
  apply L_inj; rw [L_app, L_app, L_app]; simp [L, UU]
section
variable {l s r : ByteArray} {V : List ByteArray} {K : List Ke} (z : Sz l s r V K) (hK : K.length ≤ 64)
include z hK
theorem rt_l1 : ∀ (ys : List Ke) (i : Nat) (ps : List ByteArray), K.drop i = ys → i ≤ K.length → Bd (100 + 3 * i) ps → ps ≠ [] → (i = 0 → ys = K) →
    Ev (fun k => idiomref07_text.l1 k (joinT ps) (i : Int) l s r V K) (joinT ((if i = 0 then ps ++ uK K else ps) ++ flatK ys))
  | [], i, ps, h, hi, hb, hne, h00 => by
    have hi2 : K.length ≤ i := List.drop_eq_nil_iff.1 h
    have e : (if i = 0 then ps ++ uK K else ps) = ps := by
      split
      · rename_i h1
        have : K = [] := (h00 h1).symm
        subst this
        simp [uK]
      · rfl
    rw [e]
    refine Ev.step (f := fun _ => some (joinT ps)) (fun k => ?_) (by simpa [flatK] using Ev.now _)
    simp only [idiomref07_text.l1]
    rw [if_neg (by omega)]
  | x :: ys, i, ps, h, hi, hb, hne, h00 => by
    obtain ⟨hi2, hx, hn⟩ := drop_cons h
    have hq := z.vK x (List.mem_of_getElem? hx)
    have hw : wrap64 ((i : Int) + 1) = ((i + 1 : Nat) : Int) := w64 (by omega)
    have j5 : ∀ qs, Bd (101 + 3 * i) qs → qs ≠ [] → Ev (fun k => idiomref07_text.j5 k (joinT qs) (i : Int) l s r V K) (joinT (qs ++ flatK (x :: ys))) := by
      intro qs hqs hqn
      have hs0 := joinT_size hqs (by omega)
      have e1 := joinT_app hqn x.f0
      have b1 : Bd (102 + 3 * i) (qs ++ [x.f0]) := (hqs.app hq.1).le (by omega)
      have hs1 := joinT_size b1 (by omega)
      have hp1 : (joinT qs ++ (⟨#[45]⟩ : ByteArray)).size = (joinT qs).size + 1 := sz_app _ _
      unfold flatK
      by_cases h0 : L x.f1 = []
      · have h0' : x.f1.toList = [] := by rw [toList_L]; exact h0
        have ih := rt_l1 ys (i + 1) (qs ++ [x.f0]) hn (by omega) (b1.le (by omega)) app_ne (fun h => by omega)
        rw [if_neg (by omega)] at ih
        rw [nonE_none h0]
        rw [List.append_assoc] at ih
        refine Ev.step (fun k => ?_) ih
        simp only [idiomref07_text.j5]
        rw [if_pos (by omega), if_pos (by omega), if_pos (by omega), rdK_c hx, if_pos (by omega), if_pos h0', hw, e1]
      · have h0' : ¬ x.f1.toList = [] := by rw [toList_L]; exact h0
        have e2 := joinT_app (ps := qs ++ [x.f0]) app_ne x.f1
        have hp2 : (joinT (qs ++ [x.f0]) ++ (⟨#[45]⟩ : ByteArray)).size = (joinT (qs ++ [x.f0])).size + 1 := sz_app _ _
        have ih := rt_l1 ys (i + 1) (qs ++ [x.f0] ++ [x.f1]) hn (by omega) ((b1.app hq.2).le (by omega)) app_ne (fun h => by omega)
        rw [if_neg (by omega)] at ih
        rw [nonE_some h0]
        have e : qs ++ [x.f0] ++ [x.f1] ++ flatK ys = qs ++ (x.f0 :: [x.f1] ++ flatK ys) := by simp
        rw [e] at ih
        refine Ev.step (fun k => ?_) ih
        simp only [idiomref07_text.j5]
        rw [if_pos (by omega), if_pos (by omega), if_pos (by omega), rdK_c hx, if_pos (by omega), if_neg h0', if_pos (by rw [← e1]; omega), if_pos (by rw [← e1]; omega), ← e1, ← e2, hw]
    have hs := joinT_size hb (by omega)
    by_cases hi0 : i = 0
    · have hu : uK K = [UU] := if_pos (by omega)
      rw [if_pos hi0, hu]
      refine Ev.step (fun k => ?_) (j5 (ps ++ [UU]) ((hb.app (x := UU) (by decide)).le (by omega)) app_ne)
      simp only [idiomref07_text.l1]
      rw [if_pos (by omega), if_pos (by omega), if_pos (by omega), du, ← joinT_app hne]
    · rw [if_neg hi0]
      refine Ev.step (fun k => ?_) (j5 ps (hb.le (by omega)) hne)
      simp only [idiomref07_text.l1]
      rw [if_pos (by omega), if_neg (by omega)]
variable (hV : V.length ≤ 64)
include hV
theorem rt_l0 : ∀ (ys : List ByteArray) (i : Nat) (ps : List ByteArray), V.drop i = ys → i ≤ V.length → Bd (3 + i) ps → ps ≠ [] →
    Ev (fun k => idiomref07_text.l0 k (joinT ps) (i : Int) l s r V K) (joinT ((ps ++ ys ++ uK K) ++ flatK K))
  | [], i, ps, h, hi, hb, hne => by
    have hi2 : V.length ≤ i := List.drop_eq_nil_iff.1 h
    rw [List.append_nil]
    have := rt_l1 z hK K 0 ps rfl (by omega) (hb.le (by omega)) hne (fun _ => rfl)
    rw [if_pos rfl] at this
    refine Ev.step (fun k => ?_) this
    simp only [idiomref07_text.l0]
    rw [if_neg (by omega)]; rfl
  | x :: ys, i, ps, h, hi, hb, hne => by
    obtain ⟨hi2, hx, hn⟩ := drop_cons h
    have hq := z.vV x (List.mem_of_getElem? hx)
    have hw : wrap64 ((i : Int) + 1) = ((i + 1 : Nat) : Int) := w64 (by omega)
    have ih := rt_l0 ys (i + 1) (ps ++ [x]) hn (by omega) ((hb.app hq).le (by omega)) app_ne
    have e : ps ++ [x] ++ ys ++ uK K = ps ++ (x :: ys) ++ uK K := by simp
    rw [e] at ih
    have hs := joinT_size hb (by omega)
    have hp1 : (joinT ps ++ (⟨#[45]⟩ : ByteArray)).size = (joinT ps).size + 1 := sz_app _ _
    refine Ev.step (fun k => ?_) ih
    simp only [idiomref07_text.l0]
    rw [if_pos (by omega), if_pos (by omega), if_pos (by omega), rdOf_c hx, if_pos (by omega), hw, joinT_app hne]
theorem rtext_f : Ev (fun k => idiomref07_text.f k l s r V K) (joinT (parts l s r V K)) := by
  have t2 : ∀ ps, Bd 3 ps → ps ≠ [] → Ev (fun k => idiomref07_text.j2 k (joinT ps) l s r V K) (joinT ((ps ++ V ++ uK K) ++ flatK K)) := fun ps hb hne =>
    Ev.step (fun k => by simp only [idiomref07_text.j2]; rfl) (rt_l0 z hK hV V 0 ps rfl (by omega) hb hne)
  have t1 : ∀ ps, Bd 2 ps → ps ≠ [] → Ev (fun k => idiomref07_text.j1 k (joinT ps) l s r V K) (joinT ((ps ++ nonE r ++ V ++ uK K) ++ flatK K)) := by
    intro ps hb hne
    have hs := joinT_size hb (by omega)
    have hp1 : (joinT ps ++ (⟨#[45]⟩ : ByteArray)).size = (joinT ps).size + 1 := sz_app _ _
    have hr := z.r
    by_cases h0 : L r = []
    · have h0' : r.toList = [] := by rw [toList_L]; exact h0
      rw [nonE_none h0, List.append_nil]
      refine Ev.step (fun k => ?_) (t2 ps (hb.le (by omega)) hne)
      simp only [idiomref07_text.j1]
      rw [if_pos h0']
    · have h0' : ¬ r.toList = [] := by rw [toList_L]; exact h0
      rw [nonE_some h0]
      refine Ev.step (fun k => ?_) (t2 _ (hb.app z.r) app_ne)
      simp only [idiomref07_text.j1]
      rw [if_neg h0', if_pos (by omega), if_pos (by omega), joinT_app hne]
  have t0 : ∀ ps, Bd 1 ps → ps ≠ [] → Ev (fun k => idiomref07_text.j0 k (joinT ps) l s r V K) (joinT ((ps ++ nonE s ++ nonE r ++ V ++ uK K) ++ flatK K)) := by
    intro ps hb hne
    have hs := joinT_size hb (by omega)
    have hp1 : (joinT ps ++ (⟨#[45]⟩ : ByteArray)).size = (joinT ps).size + 1 := sz_app _ _
    have hr := z.s
    by_cases h0 : L s = []
    · have h0' : s.toList = [] := by rw [toList_L]; exact h0
      rw [nonE_none h0, List.append_nil]
      refine Ev.step (fun k => ?_) (t1 ps (hb.le (by omega)) hne)
      simp only [idiomref07_text.j0]
      rw [if_pos h0']
    · have h0' : ¬ s.toList = [] := by rw [toList_L]; exact h0
      rw [nonE_some h0]
      refine Ev.step (fun k => ?_) (t1 _ (hb.app z.s) app_ne)
      simp only [idiomref07_text.j0]
      rw [if_neg h0', if_pos (by omega), if_pos (by omega), joinT_app hne]
  have b0 : ∀ x : ByteArray, x.size ≤ 1048576 → Bd 1 [x] := fun x hx => ⟨by simp, fun y hy => by obtain rfl := List.mem_singleton.1 hy; exact hx⟩
  have one : ∀ x : ByteArray, joinT [x] = x := fun x => by
    apply L_inj; unfold joinT; rw [LS]; simp [Lib.join]
  unfold idiomref07_text.f parts langT
  by_cases h0 : L l = []
  · have h0' : l.toList = [] := by rw [toList_L]; exact h0
    rw [if_pos h0]
    simp only [if_pos h0']
    have := t0 [UND] (b0 UND (by decide)) (by simp)
    rw [one] at this
    exact this
  · have h0' : ¬ l.toList = [] := by rw [toList_L]; exact h0
    rw [if_neg h0]
    simp only [if_neg h0']
    have := t0 [l] (b0 l z.l) (by simp)
    rw [one] at this
    exact this
end
end Go.Proofs.YtphjhbppjakocaaGreatDoor.Pl
namespace Go.Proofs.YtphjhbppjakocaaGreatDoor.Pl
open Go.RowKit Go.Proofs.YtphjhbppjakocaaGreatDoorW.PrintWords Go.Proofs.YtphjhbppjakocaaGreatDoor.PTag
theorem awake_f1 : Ev (fun k => idiomlaw07_awake.f k) true := Ev.of (fun k => idiomlaw07_awake.mono k) (k := 20) (by kernel_rfl)
end Go.Proofs.YtphjhbppjakocaaGreatDoor.Pl
namespace Go.Proofs.YtphjhbppjakocaaGreatDoor.Pl
open Go.RowKit Go.Proofs.YtphjhbppjakocaaGreatDoorW.PrintWords Go.Proofs.YtphjhbppjakocaaGreatDoor.PTag
set_option linter.unusedVariables false
abbrev BI := Bool × Int
def fieldB (a b : ByteArray) : Bool := decide (L a = []) || decide (a = b)
def fieldsB (l s r l' s' r' : ByteArray) : Bool := fieldB l' l && (fieldB s' s && fieldB r' r)
theorem ne_dec (a b : ByteArray) : (a.toList != b.toList) = !decide (a = b) := by
  rw [toList_L, toList_L]
  by_cases h : a = b
  · rw [decide_eq_true h, h]; simp
  · rw [decide_eq_false h]
    simp only [Bool.not_false, bne_iff_ne, ne_eq]
    exact fun e => h (L_inj e)
theorem nil_iff (a : ByteArray) : (a.toList = ([] : List UInt8)) ↔ L a = [] := by rw [toList_L]
theorem eq_iff (a b : ByteArray) : (a.toList = b.toList) ↔ a = b := ⟨fun h => L_inj (by rw [← toList_L, ← toList_L, h]), fun h => by rw [h]⟩
theorem fields_f (j : Nat → Bool → Option BI) (R : BI) (h0 : Ev (fun k => j k false) R) (h1 : Ev (fun k => j k true) (false, 0)) (l s r l' s' r' : ByteArray) :
    Ev (fun k => if l'.toList = ([] : List UInt8) then (if s'.toList = ([] : List UInt8) then (if r'.toList = ([] : List UInt8) then j k false else j k (r'.toList != r.toList)) else (if s'.toList = s.toList then (if r'.toList = ([] : List UInt8) then j k false else j k (r'.toList != r.toList)) else j k true))
      else (if l'.toList = l.toList then (if s'.toList = ([] : List UInt8) then (if r'.toList = ([] : List UInt8) then j k false else j k (r'.toList != r.toList)) else (if s'.toList = s.toList then (if r'.toList = ([] : List UInt8) then j k false else j k (r'.toList != r.toList)) else j k true)) else j k true)) (if fieldsB l s r l' s' r' = true then R else (false, 0)) := by
  have c3 : Ev (fun k => if r'.toList = ([] : List UInt8) then j k false else j k (r'.toList != r.toList)) (if fieldB r' r = true then R else (false, 0)) := by
    unfold fieldB
    simp only [nil_iff, ne_dec]
    by_cases a : L r' = []
    · rw [decide_eq_true a]; simp only [if_pos a]; exact h0
    · rw [decide_eq_false a, Bool.false_or]; simp only [if_neg a]
      by_cases b : r' = r
      · rw [decide_eq_true b]; exact h0
      · rw [decide_eq_false b]; exact h1
  have c2 : Ev (fun k => if s'.toList = ([] : List UInt8) then (if r'.toList = ([] : List UInt8) then j k false else j k (r'.toList != r.toList)) else (if s'.toList = s.toList then (if r'.toList = ([] : List UInt8) then j k false else j k (r'.toList != r.toList)) else j k true)) (if (fieldB s' s && fieldB r' r) = true then R else (false, 0)) := by
    have e : fieldB s' s = (decide (L s' = []) || decide (s' = s)) := rfl
    rw [e]
    by_cases a : L s' = []
    · have a' := (nil_iff s').2 a
      rw [decide_eq_true a, Bool.true_or, Bool.true_and]; simp only [if_pos a']; exact c3
    · have a' : ¬ s'.toList = [] := fun h => a ((nil_iff s').1 h)
      rw [decide_eq_false a, Bool.false_or]; simp only [if_neg a']
      by_cases b : s' = s
      · have b' := (eq_iff s' s).2 b
        rw [decide_eq_true b, Bool.true_and]; simp only [if_pos b']; exact c3
      · have b' : ¬ s'.toList = s.toList := fun h => b ((eq_iff s' s).1 h)
        rw [decide_eq_false b, Bool.false_and]; simp only [if_neg b']; exact h1
  unfold fieldsB
  have e : fieldB l' l = (decide (L l' = []) || decide (l' = l)) := rfl
  rw [e]
  by_cases a : L l' = []
  · have a' := (nil_iff l').2 a
    rw [decide_eq_true a, Bool.true_or, Bool.true_and]; simp only [if_pos a']; exact c2
  · have a' : ¬ l'.toList = [] := fun h => a ((nil_iff l').1 h)
    rw [decide_eq_false a, Bool.false_or]; simp only [if_neg a']
    by_cases b : l' = l
    · have b' := (eq_iff l' l).2 b
      rw [decide_eq_true b, Bool.true_and]; simp only [if_pos b']; exact c2
    · have b' : ¬ l'.toList = l.toList := fun h => b ((eq_iff l' l).1 h)
      rw [decide_eq_false b, Bool.false_and]; simp only [if_neg b']; exact h1
def sameK (x y : Ke) : Bool := (x.f0.toList == y.f0.toList) && (x.f1.toList == y.f1.toList)
def subV (V W : List ByteArray) : Bool := W.all fun v => V.any fun x => x.toList == v.toList
def subK (K M : List Ke) : Bool := M.all fun v => K.any fun x => sameK x v
def inP (l s r : ByteArray) (V : List ByteArray) (K : List Ke) (l' s' r' : ByteArray) (V' : List ByteArray) (K' : List Ke) : BI :=
  if fieldsB l s r l' s' r' = true then (if subV V V' = true then (subK K K', 0) else (false, 0)) else (false, 0)
def withinP (l s r : ByteArray) (V : List ByteArray) (K : List Ke) (l' s' r' : ByteArray) (V' : List ByteArray) (K' : List Ke) : BI :=
  if checkP l s r V K = 0 then (if checkP l' s' r' V' K' = 0 then inP l s r V K l' s' r' V' K' else (false, checkP l' s' r' V' K')) else (false, checkP l s r V K)
theorem any_in (V : List ByteArray) (v : ByteArray) : Lib.containsS V v = V.any fun x => x.toList == v.toList := by
  rw [Bool.eq_iff_iff, Lib.containsS_iff, List.any_eq_true]
  constructor
  · intro h; exact ⟨v, h, by simp⟩
  · rintro ⟨x, hx, he⟩
    obtain rfl := (eq_iff x v).1 (by simpa using he)
    exact hx
section
variable {l s r : ByteArray} {V : List ByteArray} {K : List Ke} (z : Sz l s r V K) {l' s' r' : ByteArray} {V' : List ByteArray} {K' : List Ke} (z' : Sz l' s' r' V' K')
include z z'
theorem tw_l1 : ∀ (ys : List Ke) (i : Nat), K'.drop i = ys → Ev (fun k => tag_Within.l1 k K' (K'.length : Int) (i : Int) l s r V K) (subK K ys, 0)
  | [], i, h => by
    have hi : K'.length ≤ i := List.drop_eq_nil_iff.1 h
    refine Ev.step (f := fun _ => some (true, 0)) (fun k => ?_) (Ev.now _)
    simp only [tag_Within.l1]
    rw [if_neg (by omega)]
  | y :: ys, i, h => by
    obtain ⟨hi, hy, hn⟩ := drop_cons h
    have ih := tw_l1 ys (i + 1) hn
    have h1 := z'.nK
    have h2 := z.nK
    have hw : wrap64 ((i : Int) + 1) = ((i + 1 : Nat) : Int) := w64 (by omega)
    have e : api_Key_39.f K y.f0 y.f1 = some (K.any fun x => sameK x y) := by
      unfold api_Key_39.f
      rw [if_pos (by omega)]
      congr 2
      funext x
      show ((y.f0.toList == x.f0.toList) && (y.f1.toList == x.f1.toList)) = ((x.f0.toList == y.f0.toList) && (x.f1.toList == y.f1.toList))
      rw [BEq.comm (a := y.f0.toList), BEq.comm (a := y.f1.toList)]
    refine Ev.step (f := fun k => if (K.any fun x => sameK x y) = true then tag_Within.l1 k K' (K'.length : Int) ((i + 1 : Nat) : Int) l s r V K else some (false, 0)) (fun k => ?_) ?_
    · simp only [tag_Within.l1]
      rw [if_pos (by omega), if_pos (by omega), if_pos (by omega), rdK_c hy, e, hw]; rfl
    · unfold subK
      rw [List.all_cons]
      cases hb : K.any fun x => sameK x y with
      | true => exact ih
      | false => exact Ev.now _
theorem tw_l0 : ∀ (ys : List ByteArray) (i : Nat), V'.drop i = ys → Ev (fun k => tag_Within.l0 k V' (V'.length : Int) (i : Int) l s r V K l' s' r' V' K') (if subV V ys = true then (subK K K', 0) else (false, 0))
  | [], i, h => by
    have hi : V'.length ≤ i := List.drop_eq_nil_iff.1 h
    show Ev _ (subK K K', 0)
    refine Ev.step (fun k => ?_) (tw_l1 z z' K' 0 rfl)
    simp only [tag_Within.l0]
    rw [if_neg (by omega)]; rfl
  | y :: ys, i, h => by
    obtain ⟨hi, hy, hn⟩ := drop_cons h
    have ih := tw_l0 ys (i + 1) hn
    have h1 := z'.nV
    have h2 := z.nV
    have hw : wrap64 ((i : Int) + 1) = ((i + 1 : Nat) : Int) := w64 (by omega)
    have e : slices_Contains_string_string.f V y = some (V.any fun x => x.toList == y.toList) := by
      unfold slices_Contains_string_string.f
      rw [if_pos (by omega), any_in]
    refine Ev.step (f := fun k => if (V.any fun x => x.toList == y.toList) = true then tag_Within.l0 k V' (V'.length : Int) ((i + 1 : Nat) : Int) l s r V K l' s' r' V' K' else some (false, 0)) (fun k => ?_) ?_
    · simp only [tag_Within.l0]
      rw [if_pos (by omega), if_pos (by omega), if_pos (by omega), rdOf_c hy, e, hw]; rfl
    · unfold subV
      rw [List.all_cons]
      cases hb : V.any fun x => x.toList == y.toList with
      | true => exact ih
      | false => exact Ev.now _
theorem within_f : Ev (fun k => tag_Within.f k l s r V K l' s' r' V' K') (withinP l s r V K l' s' r' V' K') := by
  unfold tag_Within.f withinP
  refine Ev.bind (check_f z) ?_
  by_cases h1 : checkP l s r V K = 0
  · simp only [if_pos h1]
    refine Ev.bind (check_f z') ?_
    by_cases h2 : checkP l' s' r' V' K' = 0
    · simp only [if_pos h2]
      refine fields_f (fun k x => tag_Within.j0 k x l s r V K l' s' r' V' K') _ ?_ ?_ l s r l' s' r'
      · refine Ev.step (fun k => ?_) (tw_l0 z z' V' 0 rfl)
        simp only [tag_Within.j0]
        rw [if_neg (by simp)]; rfl
      · exact Ev.step (f := fun _ => some (false, 0)) (fun k => by simp [tag_Within.j0]) (Ev.now _)
    · simp only [if_neg h2]; exact Ev.now _
  · simp only [if_neg h1]; exact Ev.now _
end
end Go.Proofs.YtphjhbppjakocaaGreatDoor.Pl
namespace Go.Proofs.YtphjhbppjakocaaGreatDoor.Pl
open Go.RowKit Go.Proofs.YtphjhbppjakocaaGreatDoorW.PrintWords Go.Proofs.YtphjhbppjakocaaGreatDoor.PTag
set_option linter.unusedVariables false
instance decKe : DecidableEq Ke := fun a b => if h : a.f0 = b.f0 ∧ a.f1 = b.f1 then isTrue (by cases a; cases b; simp only at h; rw [h.1, h.2]) else isFalse (fun e => h (by rw [e]; exact ⟨rfl, rfl⟩))
theorem eq_iffL (a b : ByteArray) : (a.toList = b.toList) ↔ a = b := ⟨fun h => L_inj (by rw [← toList_L, ← toList_L, h]), fun h => by rw [h]⟩
theorem drop_getD {α : Type} {V : List α} {i : Nat} (h : i < V.length) : ∃ x, V[i]? = some x ∧ V.drop i = x :: V.drop (i + 1) := ⟨V[i], List.getElem?_eq_getElem h, List.drop_eq_getElem_cons h⟩
theorem dec_and {p q : Prop} [Decidable p] [Decidable q] (h : p) : decide (p ∧ q) = decide q := by simp [h]
theorem dec_no {p : Prop} [Decidable p] (h : ¬ p) : decide p = false := decide_eq_false h
section
variable (l s r : ByteArray) (V : List ByteArray) (K : List Ke) (l' s' r' : ByteArray) (V' : List ByteArray) (K' : List Ke) (hV : V.length ≤ 1048576) (hK : K.length ≤ 1048576)
include hK
theorem same_l1g (hl : K.length = K'.length) : ∀ (d i : Nat), K.length - i = d → i ≤ K.length → Ev (fun k => idiomref07_Same.l1 k (i : Int) l s r V K l' s' r' V' K') (decide (K.drop i = K'.drop i)) := by
  intro d
  induction d with
  | zero =>
    intro i hd hi
    rw [List.drop_eq_nil_of_le (by omega), List.drop_eq_nil_of_le (by omega)]
    refine Ev.step (f := fun _ => some true) (fun k => ?_) (Ev.now _)
    simp only [idiomref07_Same.l1]
    rw [if_neg (by omega)]
  | succ d ih =>
    intro i hd hi
    obtain ⟨x, hx, ex⟩ := drop_getD (V := K) (i := i) (by omega)
    obtain ⟨y, hy, ey⟩ := drop_getD (V := K') (i := i) (by omega)
    have hw : wrap64 ((i : Int) + 1) = ((i + 1 : Nat) : Int) := w64 (by omega)
    have i2 := ih (i + 1) (by omega) (by omega)
    rw [ex, ey]
    refine Ev.step (f := fun k => if (!((x.f0.toList) == (y.f0.toList)) || (!((x.f1.toList) == (y.f1.toList)))) = true then some false else idiomref07_Same.l1 k ((i + 1 : Nat) : Int) l s r V K l' s' r' V' K') (fun k => ?_) ?_
    · simp only [idiomref07_Same.l1]
      rw [if_pos (by omega), if_pos (by omega), if_pos (by omega), rdK_c hx, rdK_c hy, hw]
    · by_cases h0 : x.f0 = y.f0
      · by_cases h1 : x.f1 = y.f1
        · have e : x = y := by cases x; cases y; simp only at h0 h1; rw [h0, h1]
          rw [e]
          have e2 : (!((y.f0.toList) == (y.f0.toList)) || (!((y.f1.toList) == (y.f1.toList)))) = false := by simp
          simp only [e2]
          have e3 : decide (y :: K.drop (i + 1) = y :: K'.drop (i + 1)) = decide (K.drop (i + 1) = K'.drop (i + 1)) := by simp
          rw [e3]; exact i2
        · have e1 : (x.f1.toList == y.f1.toList) = false := beq_eq_false_iff_ne.mpr (fun e => h1 ((eq_iffL _ _).1 e))
          simp only [e1]
          rw [dec_no (fun e => h1 (by rw [(List.cons.inj e).1]))]
          refine Ev.congr (f := fun _ => some false) (fun k => ?_) (Ev.now _)
          simp
      · have e1 : (x.f0.toList == y.f0.toList) = false := beq_eq_false_iff_ne.mpr (fun e => h0 ((eq_iffL _ _).1 e))
        simp only [e1]
        rw [dec_no (fun e => h0 (by rw [(List.cons.inj e).1]))]
        exact Ev.now _
include hV
theorem same_l0g (hl : K.length = K'.length) (hv : V.length = V'.length) : ∀ (d i : Nat), V.length - i = d → i ≤ V.length → Ev (fun k => idiomref07_Same.l0 k (i : Int) l s r V K l' s' r' V' K') (decide (V.drop i = V'.drop i ∧ K = K')) := by
  intro d
  induction d with
  | zero =>
    intro i hd hi
    rw [List.drop_eq_nil_of_le (by omega), List.drop_eq_nil_of_le (by omega), dec_and rfl]
    refine Ev.step (fun k => ?_) (same_l1g l s r V K l' s' r' V' K' hK hl K.length 0 (by omega) (by omega))
    simp only [idiomref07_Same.l0]
    rw [if_neg (by omega)]; rfl
  | succ d ih =>
    intro i hd hi
    obtain ⟨x, hx, ex⟩ := drop_getD (V := V) (i := i) (by omega)
    obtain ⟨y, hy, ey⟩ := drop_getD (V := V') (i := i) (by omega)
    have hw : wrap64 ((i : Int) + 1) = ((i + 1 : Nat) : Int) := w64 (by omega)
    have i2 := ih (i + 1) (by omega) (by omega)
    rw [ex, ey]
    refine Ev.step (f := fun k => if x.toList = y.toList then idiomref07_Same.l0 k ((i + 1 : Nat) : Int) l s r V K l' s' r' V' K' else some false) (fun k => ?_) ?_
    · simp only [idiomref07_Same.l0]
      rw [if_pos (by omega), if_pos (by omega), if_pos (by omega), rdOf_c hx, rdOf_c hy, hw]
    · by_cases h0 : x = y
      · subst h0
        simp only [if_true]
        have e3 : decide (x :: V.drop (i + 1) = x :: V'.drop (i + 1) ∧ K = K') = decide (V.drop (i + 1) = V'.drop (i + 1) ∧ K = K') := by simp
        rw [e3]; exact i2
      · have e1 : ¬ x.toList = y.toList := fun e => h0 ((eq_iffL _ _).1 e)
        simp only [if_neg e1]
        rw [dec_no (fun e => h0 (List.cons.inj e.1).1)]
        exact Ev.now _
theorem same_g : Ev (fun k => idiomref07_Same.f k l s r V K l' s' r' V' K') (decide (l = l' ∧ s = s' ∧ r = r' ∧ V = V' ∧ K = K')) := by
  have bad : Ev (fun k => idiomref07_Same.j0 k true l s r V K l' s' r' V' K') false := Ev.step (f := fun _ => some false) (fun k => by simp [idiomref07_Same.j0]) (Ev.now _)
  unfold idiomref07_Same.f
  simp only [eq_iffL]
  by_cases h1 : l = l'
  · simp only [if_pos h1]
    by_cases h2 : s = s'
    · simp only [if_pos h2]
      by_cases h3 : r = r'
      · simp only [if_pos h3]
        rw [dec_and h1, dec_and h2, dec_and h3]
        by_cases h4 : V.length = V'.length
        · simp only [if_pos (show (V.length : Int) = (V'.length : Int) by omega)]
          by_cases h5 : K.length = K'.length
          · have e : ((K.length : Int) != (K'.length : Int)) = false := by simp; omega
            rw [e]
            refine Ev.step (fun k => ?_) (same_l0g l s r V K l' s' r' V' K' hV hK h5 h4 V.length 0 (by omega) (by omega))
            simp only [idiomref07_Same.j0]
            rw [if_neg (by simp)]; rfl
          · have e : ((K.length : Int) != (K'.length : Int)) = true := by simp; omega
            rw [e, dec_no (fun h => h5 (by rw [h.2]))]; exact bad
        · simp only [if_neg (show ¬ (V.length : Int) = (V'.length : Int) by omega)]
          rw [dec_no (fun h => h4 (by rw [h.1]))]; exact bad
      · simp only [if_neg h3]; rw [dec_no (fun h => h3 h.2.2.1)]; exact bad
    · simp only [if_neg h2]; rw [dec_no (fun h => h2 h.2.1)]; exact bad
  · simp only [if_neg h1]; rw [dec_no (fun h => h1 h.1)]; exact bad
end
end Go.Proofs.YtphjhbppjakocaaGreatDoor.Pl
namespace Go.Proofs.YtphjhbppjakocaaGreatDoor.Pl
open Go.RowKit Go.Proofs.YtphjhbppjakocaaGreatDoorW.PrintWords Go.Proofs.YtphjhbppjakocaaGreatDoor.PTag
set_option linter.unusedVariables false
abbrev Tg := ByteArray × ByteArray × ByteArray × List ByteArray × List Ke
abbrev Z0 : ByteArray := ⟨#[]⟩
def chkT (t : Tg) : Int := checkP t.1 t.2.1 t.2.2.1 t.2.2.2.1 t.2.2.2.2
def prtT (t : Tg) : List ByteArray := parts t.1 t.2.1 t.2.2.1 t.2.2.2.1 t.2.2.2.2
def txtT (t : Tg) : ByteArray := joinT (prtT t)
def rootT : Tg := (Z0, Z0, Z0, [], [])
def nextT (t : Tg) : Tg := if 0 < t.2.2.2.2.length then (t.1, t.2.1, t.2.2.1, t.2.2.2.1, []) else if 0 < t.2.2.2.1.length then (t.1, t.2.1, t.2.2.1, t.2.2.2.1.take (t.2.2.2.1.length - 1), t.2.2.2.2)
  else if L t.2.2.1 = [] then (if L t.2.1 = [] then (Z0, t.2.1, t.2.2.1, t.2.2.2.1, t.2.2.2.2) else (t.1, Z0, t.2.2.1, t.2.2.2.1, t.2.2.2.2)) else (t.1, t.2.1, Z0, t.2.2.2.1, t.2.2.2.2)
theorem chk_iff (l s r : ByteArray) (V : List ByteArray) (K : List Ke) : checkP l s r V K = 0 ↔ langOk l = true ∧ scrOk s = true ∧ regOk r = true ∧ V.length ≤ 64 ∧ vcP none V = 0 ∧ K.length ≤ 64 ∧ kcP none K = 0 := by
  unfold checkP contP restK
  constructor
  · intro h
    by_cases h1 : langOk l = true
    · rw [if_pos h1] at h
      by_cases h2 : scrOk s = true
      · rw [if_pos h2] at h
        by_cases h3 : regOk r = true
        · rw [if_pos h3] at h
          by_cases h4 : V.length > 64
          · rw [if_pos h4] at h; exact absurd h (by decide)
          · rw [if_neg h4] at h
            by_cases h5 : vcP none V = 0
            · rw [if_pos h5] at h
              by_cases h6 : K.length > 64
              · rw [if_pos h6] at h; exact absurd h (by decide)
              · rw [if_neg h6] at h
                exact ⟨h1, h2, h3, by omega, h5, by omega, h⟩
            · rw [if_neg h5] at h; exact absurd h h5
        · rw [if_neg h3] at h; exact absurd h (by decide)
      · rw [if_neg h2] at h; exact absurd h (by decide)
    · rw [if_neg h1] at h; exact absurd h (by decide)
  · rintro ⟨h1, h2, h3, h4, h5, h6, h7⟩
    rw [if_pos h1, if_pos h2, if_pos h3, if_neg (by omega), if_pos h5, if_neg (by omega), h7]
theorem vc_take : ∀ (V : List ByteArray) (pr : Option ByteArray) (n : Nat), vcP pr V = 0 → vcP pr (V.take n) = 0
  | [], _, n, _ => by rw [List.take_nil]; rfl
  | v :: vs, _, 0, _ => rfl
  | v :: vs, pr, n + 1, h => by
    rw [List.take_succ_cons]
    unfold vcP at h ⊢
    by_cases h1 : vart (L v) = true
    · rw [if_pos h1] at h ⊢
      by_cases h2 : low v = v
      · rw [if_pos h2] at h ⊢
        by_cases h3 : rise pr v = 0
        · rw [if_pos h3] at h ⊢; exact vc_take vs (some v) n h
        · rw [if_neg h3] at h; exact absurd h h3
      · rw [if_neg h2] at h; exact absurd h (by decide)
    · rw [if_neg h1] at h; exact absurd h (by decide)
theorem langOk_nil : langOk Z0 = true := rfl
theorem scrOk_nil : scrOk Z0 = true := rfl
theorem regOk_nil : regOk Z0 = true := rfl
theorem chk_next {t : Tg} (h : chkT t = 0) : chkT (nextT t) = 0 := by
  obtain ⟨l, s, r, V, K⟩ := t
  obtain ⟨h1, h2, h3, h4, h5, h6, h7⟩ := (chk_iff l s r V K).1 h
  unfold nextT
  split
  · exact (chk_iff _ _ _ _ _).2 ⟨h1, h2, h3, h4, h5, by simp, rfl⟩
  · split
    · exact (chk_iff _ _ _ _ _).2 ⟨h1, h2, h3, by simp only [List.length_take] at *; omega, vc_take _ _ _ h5, h6, h7⟩
    · split
      · split
        · exact (chk_iff _ _ _ _ _).2 ⟨langOk_nil, h2, h3, h4, h5, h6, h7⟩
        · exact (chk_iff _ _ _ _ _).2 ⟨h1, scrOk_nil, h3, h4, h5, h6, h7⟩
      · exact (chk_iff _ _ _ _ _).2 ⟨h1, h2, regOk_nil, h4, h5, h6, h7⟩
def tot : List ByteArray → Nat
  | [] => 0
  | x :: r => x.size + 1 + tot r
theorem tot_app : ∀ (a b : List ByteArray), tot (a ++ b) = tot a + tot b
  | [], b => by simp [tot]
  | x :: a, b => by
    have ih := tot_app a b
    show x.size + 1 + tot (a ++ b) = x.size + 1 + tot a + tot b
    omega
theorem joinT_tot : ∀ (a : ByteArray) (r : List ByteArray), (joinT (a :: r)).size + 1 = tot (a :: r)
  | a, [] => by
    unfold joinT; rw [S_size]
    simp [Lib.join, tot]
  | a, b :: r => by
    have ih := joinT_tot b r
    unfold joinT at ih ⊢
    rw [S_size] at ih ⊢
    have : Lib.join ((a :: b :: r).map L) [45] = L a ++ [45] ++ Lib.join ((b :: r).map L) [45] := by simp [Lib.join, List.intercalate]
    rw [this, List.length_append, List.length_append, L_len]
    rw [show tot (a :: b :: r) = a.size + 1 + tot (b :: r) from rfl]
    simp only [List.length_cons, List.length_nil] at ih ⊢
    omega
theorem parts_tot (l s r : ByteArray) (V : List ByteArray) (K : List Ke) : (joinT (parts l s r V K)).size + 1 = (langT l).size + 1 + tot (nonE s) + tot (nonE r) + tot V + tot (uK K) + tot (flatK K) := by
  have e : parts l s r V K = langT l :: (nonE s ++ nonE r ++ V ++ uK K ++ flatK K) := by unfold parts; simp
  rw [e, joinT_tot, show ∀ (a : ByteArray) (x : List ByteArray), tot (a :: x) = a.size + 1 + tot x from fun _ _ => rfl, tot_app, tot_app, tot_app, tot_app]
  omega
theorem nonE_tot {x : ByteArray} (h : ¬ L x = []) : 1 ≤ tot (nonE x) := by rw [nonE_some h]; simp [tot]
theorem tot_take (V : List ByteArray) (h : 0 < V.length) : tot (V.take (V.length - 1)) < tot V := by
  have e : tot V = tot (V.take (V.length - 1)) + tot (V.drop (V.length - 1)) := by rw [← tot_app, List.take_append_drop]
  have : V.drop (V.length - 1) ≠ [] := fun hh => by have := List.drop_eq_nil_iff.1 hh; omega
  cases hd : V.drop (V.length - 1) with
  | nil => exact absurd hd this
  | cons a b =>
    rw [e, hd]
    show _ < _ + (a.size + 1 + tot b)
    omega
theorem txt_next (t : Tg) (h : ¬ (t.2.2.2.2 = [] ∧ t.2.2.2.1 = [] ∧ L t.2.2.1 = [] ∧ L t.2.1 = [])) : (txtT (nextT t)).size < (txtT t).size := by
  obtain ⟨l, s, r, V, K⟩ := t
  have h0 := parts_tot l s r V K
  unfold txtT prtT nextT
  simp only at h ⊢
  split
  · rename_i hk
    have h1 := parts_tot l s r V []
    have e : uK K = [UU] := if_pos hk
    have e2 : tot (uK K) = 2 := by rw [e]; rfl
    have e3 : tot (uK ([] : List Ke)) = 0 := rfl
    have e4 : tot (flatK ([] : List Ke)) = 0 := rfl
    simp only; omega
  · rename_i hk
    split
    · rename_i hv
      have h1 := parts_tot l s r (V.take (V.length - 1)) K
      have := tot_take V hv
      simp only; omega
    · rename_i hv
      have hK : K = [] := List.length_eq_zero_iff.1 (by omega)
      have hV : V = [] := List.length_eq_zero_iff.1 (by omega)
      have e3 : tot (nonE Z0) = 0 := rfl
      split
      · rename_i hr
        split
        · rename_i hs; exact absurd ⟨hK, hV, hr, hs⟩ h
        · rename_i hs
          have h1 := parts_tot l Z0 r V K
          have := nonE_tot hs
          simp only; omega
      · rename_i hr
        have h1 := parts_tot l s Z0 V K
        have := nonE_tot hr
        simp only; omega
theorem nonE_nil {x : ByteArray} (h : nonE x = []) : x = Z0 := by
  by_cases h0 : L x = []
  · exact L_inj h0
  · rw [nonE_some h0] at h; cases h
theorem und_only {t : Tg} (h : chkT t = 0) (hu : txtT t = UND) : t = rootT := by
  obtain ⟨l, s, r, V, K⟩ := t
  obtain ⟨h1, h2, h3, h4, h5, h6, h7⟩ := (chk_iff l s r V K).1 h
  have e : parts l s r V K = langT l :: (nonE s ++ nonE r ++ V ++ uK K ++ flatK K) := by unfold parts; simp
  have hu : joinT (parts l s r V K) = UND := hu
  rw [e] at hu
  have hL := congrArg L hu
  unfold joinT at hL
  rw [LS] at hL
  cases hq : nonE s ++ nonE r ++ V ++ uK K ++ flatK K with
  | nil =>
    rw [hq] at hL
    have hl : L (langT l) = L UND := by simpa [Lib.join] using hL
    simp only [List.append_eq_nil_iff] at hq
    obtain ⟨⟨⟨⟨q1, q2⟩, q3⟩, q4⟩, q5⟩ := hq
    have hK : K = [] := by
      cases K with
      | nil => rfl
      | cons a b => cases q5
    have hl2 : l = Z0 := by
      by_cases h0 : L l = []
      · exact L_inj h0
      · unfold langT at hl
        rw [if_neg h0] at hl
        unfold langOk at h1
        rw [decide_eq_false h0, Bool.false_or, hl] at h1
        have e9 : decide (L UND ≠ [117, 110, 100]) = false := by decide
        rw [e9, Bool.and_false, Bool.and_false] at h1
        cases h1
    rw [hK, q3, nonE_nil q1, nonE_nil q2, hl2]; rfl
  | cons a b =>
    rw [hq] at hL
    exfalso
    have : (45 : UInt8) ∈ L UND := by
      rw [← hL]
      have : Lib.join ((langT l :: a :: b).map L) [45] = L (langT l) ++ [45] ++ Lib.join ((a :: b).map L) [45] := by simp [Lib.join, List.intercalate]
      rw [this]; simp
    exact absurd this (by decide)
theorem txt_root : txtT rootT = UND := rfl
theorem next_end {t : Tg} (h : t.2.2.2.2 = [] ∧ t.2.2.2.1 = [] ∧ L t.2.2.1 = [] ∧ L t.2.1 = []) : nextT t = rootT := by
  obtain ⟨l, s, r, V, K⟩ := t
  obtain ⟨h1, h2, h3, h4⟩ := h
  simp only at h1 h2 h3 h4
  obtain rfl : r = Z0 := L_inj h3
  obtain rfl : s = Z0 := L_inj h4
  subst h1 h2
  rfl
theorem subV_sub {V W : List ByteArray} (h : ∀ v ∈ W, v ∈ V) : subV V W = true := by
  unfold subV
  rw [List.all_eq_true]
  intro v hv
  rw [List.any_eq_true]
  exact ⟨v, h v hv, by simp⟩
theorem subK_sub {K M : List Ke} (h : ∀ v ∈ M, v ∈ K) : subK K M = true := by
  unfold subK
  rw [List.all_eq_true]
  intro v hv
  rw [List.any_eq_true]
  exact ⟨v, h v hv, by simp [sameK]⟩
theorem fieldB_own (a : ByteArray) : fieldB a a = true := by unfold fieldB; simp
theorem fieldB_nil (a : ByteArray) : fieldB Z0 a = true := by unfold fieldB; simp [L]
def inT (t u : Tg) : BI := withinP t.1 t.2.1 t.2.2.1 t.2.2.2.1 t.2.2.2.2 u.1 u.2.1 u.2.2.1 u.2.2.2.1 u.2.2.2.2
theorem inP_yes (l s r : ByteArray) (V : List ByteArray) (K : List Ke) (l' s' r' : ByteArray) (V' : List ByteArray) (K' : List Ke) (h1 : fieldB l' l = true) (h2 : fieldB s' s = true) (h3 : fieldB r' r = true) (hV : ∀ v ∈ V', v ∈ V) (hK : ∀ v ∈ K', v ∈ K) : inP l s r V K l' s' r' V' K' = (true, 0) := by
  unfold inP fieldsB
  rw [h1, h2, h3, subV_sub hV, subK_sub hK]
  rfl
theorem in_next {t : Tg} (h : chkT t = 0) : inT t (nextT t) = (true, 0) := by
  have hn := chk_next h
  unfold inT withinP
  unfold chkT at h hn
  rw [if_pos h, if_pos hn]
  obtain ⟨l, s, r, V, K⟩ := t
  unfold nextT
  simp only
  split
  · exact inP_yes _ _ _ _ _ _ _ _ _ _ (fieldB_own _) (fieldB_own _) (fieldB_own _) (fun v hv => hv) (fun v hv => by cases hv)
  · split
    · exact inP_yes _ _ _ _ _ _ _ _ _ _ (fieldB_own _) (fieldB_own _) (fieldB_own _) (fun v hv => List.mem_of_mem_take hv) (fun v hv => hv)
    · split
      · split
        · exact inP_yes _ _ _ _ _ _ _ _ _ _ (fieldB_nil _) (fieldB_own _) (fieldB_own _) (fun v hv => hv) (fun v hv => hv)
        · exact inP_yes _ _ _ _ _ _ _ _ _ _ (fieldB_own _) (fieldB_nil _) (fieldB_own _) (fun v hv => hv) (fun v hv => hv)
      · exact inP_yes _ _ _ _ _ _ _ _ _ _ (fieldB_own _) (fieldB_own _) (fieldB_nil _) (fun v hv => hv) (fun v hv => hv)
theorem next_ne {t : Tg} (h : chkT t = 0) (hr : t ≠ rootT) : t ≠ nextT t := by
  intro e
  by_cases hq : t.2.2.2.2 = [] ∧ t.2.2.2.1 = [] ∧ L t.2.2.1 = [] ∧ L t.2.1 = []
  · rw [next_end hq] at e; exact hr e
  · have := txt_next t hq
    rw [← e] at this; omega
def upT : Nat → Tg → List Tg
  | 0, t => [t]
  | n + 1, t => if t = rootT then [t] else t :: upT n (nextT t)
def neT (x : ByteArray) : Nat := if L x = [] then 0 else 1
theorem neT_0 {x : ByteArray} (h : L x = []) : neT x = 0 := if_pos h
theorem neT_1 {x : ByteArray} (h : ¬ L x = []) : neT x = 1 := if_neg h
theorem neT_z : neT Z0 = 0 := rfl
theorem neT_le (x : ByteArray) : neT x ≤ 1 := by unfold neT; split <;> omega
theorem neT_E {x : ByteArray} (h : neT x = 0) : x = Z0 := by
  by_cases h0 : L x = []
  · exact L_inj h0
  · rw [neT_1 h0] at h; cases h
def farT (t : Tg) : Nat := t.2.2.2.2.length + t.2.2.2.1.length + neT t.2.2.1 + neT t.2.1 + neT t.1
theorem far_root {t : Tg} (h : farT t = 0) : t = rootT := by
  obtain ⟨l, s, r, V, K⟩ := t
  unfold farT at h
  simp only at h
  have hK : K = [] := List.length_eq_zero_iff.1 (by omega)
  have hV : V = [] := List.length_eq_zero_iff.1 (by omega)
  rw [hK, hV, neT_E (x := l) (by omega), neT_E (x := s) (by omega), neT_E (x := r) (by omega)]; rfl
theorem far_next {t : Tg} (hr : t ≠ rootT) : farT (nextT t) < farT t := by
  obtain ⟨l, s, r, V, K⟩ := t
  have hz := neT_z
  unfold nextT farT
  simp only
  split
  · simp only [List.length_nil]; omega
  · split
    · simp only [List.length_take]; omega
    · rename_i h1 h2
      split
      · rename_i h3
        split
        · rename_i h4
          have e3 := neT_0 h3
          have e4 := neT_0 h4
          by_cases h5 : L l = []
          · exfalso
            apply hr
            rw [List.length_eq_zero_iff.1 (show K.length = 0 by omega), List.length_eq_zero_iff.1 (show V.length = 0 by omega), L_inj (b := Z0) h3, L_inj (b := Z0) h4, L_inj (b := Z0) h5]; rfl
          · have e5 := neT_1 h5
            simp only; omega
        · rename_i h4
          have e4 := neT_1 h4
          simp only; omega
      · rename_i h3
        have e3 := neT_1 h3
        simp only; omega
end Go.Proofs.YtphjhbppjakocaaGreatDoor.Pl
namespace Go.Proofs.YtphjhbppjakocaaGreatDoor.Pl
open Go.RowKit Go.Proofs.YtphjhbppjakocaaGreatDoorW.PrintWords Go.Proofs.YtphjhbppjakocaaGreatDoor.PTag
set_option linter.unusedVariables false
def toS (t : Tg) : S25 := ⟨t.1, t.2.1, t.2.2.1, t.2.2.2.1, t.2.2.2.2⟩
abbrev SzT (t : Tg) : Prop := Sz t.1 t.2.1 t.2.2.1 t.2.2.2.1 t.2.2.2.2
theorem few_of {t : Tg} (h : chkT t = 0) : t.2.2.2.1.length ≤ 64 ∧ t.2.2.2.2.length ≤ 64 := by
  obtain ⟨l, s, r, V, K⟩ := t
  obtain ⟨_, _, _, h4, _, h6, _⟩ := (chk_iff l s r V K).1 h
  exact ⟨h4, h6⟩
theorem sz_next {t : Tg} (z : SzT t) : SzT (nextT t) := by
  obtain ⟨l, s, r, V, K⟩ := t
  have z0 : Z0.size ≤ 1048576 := by decide
  unfold nextT
  simp only
  split
  · exact ⟨z.l, z.s, z.r, z.nV, by simp, z.vV, fun _ h => by cases h⟩
  · split
    · exact ⟨z.l, z.s, z.r, by have := z.nV; simp only [List.length_take] at *; omega, z.nK, fun v hv => z.vV v (List.mem_of_mem_take hv), z.vK⟩
    · split
      · split
        · exact ⟨z0, z.s, z.r, z.nV, z.nK, z.vV, z.vK⟩
        · exact ⟨z.l, z0, z.r, z.nV, z.nK, z.vV, z.vK⟩
      · exact ⟨z.l, z.s, z0, z.nV, z.nK, z.vV, z.vK⟩
theorem textT_f {t : Tg} (z : SzT t) (h : chkT t = 0) : Ev (fun k => tag_text.f k t.1 t.2.1 t.2.2.1 t.2.2.2.1 t.2.2.2.2) (txtT t) := text_f z (few_of h).1 (few_of h).2
theorem parts_len (t : Tg) (h : t.2.2.2.1.length ≤ 64) (h2 : t.2.2.2.2.length ≤ 64) (z : SzT t) : (txtT t).size ≤ 1048577000 := by
  obtain ⟨l, s, r, V, K⟩ := t
  have e1 : (nonE s).length ≤ 1 := by unfold nonE; split <;> simp
  have e2 : (nonE r).length ≤ 1 := by unfold nonE; split <;> simp
  have e3 : (uK K).length ≤ 1 := by unfold uK; split <;> simp
  have fl : ∀ (M : List Ke), (flatK M).length ≤ 2 * M.length := by
    intro M
    induction M with
    | nil => simp [flatK]
    | cons x M ih =>
      have e4 : (nonE x.f1).length ≤ 1 := by unfold nonE; split <;> simp
      unfold flatK
      simp only [List.length_append, List.length_cons]; omega
  have m1 : ∀ x : ByteArray, x.size ≤ 1048576 → ∀ y ∈ nonE x, y.size ≤ 1048576 := fun x hx y hy => by
    unfold nonE at hy
    split at hy
    · cases hy
    · obtain rfl := List.mem_singleton.1 hy; exact hx
  have m2 : ∀ (M : List Ke), (∀ x ∈ M, x.f0.size ≤ 1048576 ∧ x.f1.size ≤ 1048576) → ∀ y ∈ flatK M, y.size ≤ 1048576 := by
    intro M
    induction M with
    | nil => intro _ y hy; cases hy
    | cons x M ih =>
      intro hM y hy
      have hx := hM x (List.mem_cons_self ..)
      unfold flatK at hy
      rcases List.mem_append.1 hy with hy | hy
      · rcases List.mem_cons.1 hy with rfl | hy
        · exact hx.1
        · exact m1 _ hx.2 y hy
      · exact ih (fun z hz => hM z (List.mem_cons_of_mem _ hz)) y hy
  refine joinT_size (n := 1000) ⟨?_, ?_⟩ (Nat.le_refl _)
  · have := fl K
    unfold prtT parts
    simp only [List.length_append, List.length_cons, List.length_nil] at *
    omega
  · intro y hy
    unfold prtT parts at hy
    simp only [List.mem_append] at hy
    rcases hy with ((((hy | hy) | hy) | hy) | hy) | hy
    · obtain rfl := List.mem_singleton.1 hy
      unfold langT
      split
      · decide
      · exact z.l
    · exact m1 _ z.s y hy
    · exact m1 _ z.r y hy
    · exact z.vV y hy
    · unfold uK at hy
      split at hy
      · obtain rfl := List.mem_singleton.1 hy; decide
      · cases hy
    · exact m2 K z.vK y hy
theorem txt_small {t : Tg} (z : SzT t) (h : chkT t = 0) : (txtT t).size ≤ 9223372036854775807 := by
  have := parts_len t (few_of h).1 (few_of h).2 z
  omega
theorem copied_f {t : Tg} (h : chkT t = 0) : tag_copied.f t.1 t.2.1 t.2.2.1 t.2.2.2.1 t.2.2.2.2 = some t := by
  have h1 := few_of h
  unfold tag_copied.f slices_Clone_string_string.f api_Key_86.f
  first
    | rfl
    | (rw [if_pos (by omega), if_pos (by omega)]; rfl)
theorem parent_up (t : Tg) (x : ByteArray) (hx : x.size ≤ 9223372036854775807) {m : Nat} (ht : tag_text.f m t.1 t.2.1 t.2.2.1 t.2.2.2.1 t.2.2.2.2 = some x) : tag_parent.f m t.1 t.2.1 t.2.2.1 t.2.2.2.1 t.2.2.2.2 = some (nextT t) := by
  obtain ⟨l, s, r, V, K⟩ := t
  unfold tag_parent.f nextT
  simp only at ht ⊢
  by_cases h1 : 0 < K.length
  · rw [if_pos h1, if_pos h1]
  · rw [if_neg h1, if_neg h1, ht]
    simp only [Option.bind_some]
    rw [if_pos hx]
    by_cases h2 : 0 < V.length
    · rw [if_pos h2, if_pos h2]
    · rw [if_neg h2, if_neg h2, toList_L, toList_L]
      by_cases h3 : L r = []
      · rw [if_pos h3, if_pos h3]
        by_cases h4 : L s = []
        · rw [if_pos h4, if_pos h4]
        · rw [if_neg h4, if_neg h4]
      · rw [if_neg h3, if_neg h3]
theorem und_iff (x : ByteArray) : (x.toList = ([117, 110, 100] : List UInt8)) ↔ x = UND := by
  rw [toList_L]
  exact ⟨fun h => L_inj h, fun h => by rw [h]; rfl⟩
theorem chain_up : ∀ (n : Nat) (t : Tg) (hd : ByteArray → Option Int) (acc : List S25), farT t ≤ n → chkT t = 0 → SzT t → acc.length + n < 1000000000000 → (∀ y, hd y ≠ none → y ≠ UND ∧ (t = rootT ∨ (txtT t).size < y.size)) →
    ∃ M, ∀ m, M ≤ m → ∀ k, n + 1 ≤ k → tag_chain.l0 m k hd acc t = some (acc ++ (upT n t).map toS, 0) := by
  intro n
  induction n with
  | zero =>
    intro t hd acc hf hc z hn hh
    obtain rfl := far_root (Nat.le_zero.1 hf)
    obtain ⟨M, hM⟩ := textT_f z hc
    refine ⟨M, fun m hm k hk => ?_⟩
    obtain ⟨k, rfl⟩ : ∃ q, k = q + 1 := ⟨k - 1, by omega⟩
    have hnone : hd (txtT rootT) = none := Classical.byContradiction fun h => (hh _ h).1 txt_root
    have e1 := hM m hm
    simp only at e1
    unfold tag_chain.l0
    rw [e1]
    simp only [Option.bind_some]
    rw [if_pos (txt_small z hc), hnone]
    simp only
    rw [if_pos (by omega), copied_f hc]
    simp only [Option.bind_some]
    rw [if_pos ((und_iff _).2 txt_root)]
    rfl
  | succ n ih =>
    intro t hd acc hf hc z hn hh
    obtain ⟨M, hM⟩ := textT_f z hc
    by_cases hr : t = rootT
    · subst hr
      refine ⟨M, fun m hm k hk => ?_⟩
      obtain ⟨k, rfl⟩ : ∃ q, k = q + 1 := ⟨k - 1, by omega⟩
      have hnone : hd (txtT rootT) = none := Classical.byContradiction fun h => (hh _ h).1 txt_root
      have e1 := hM m hm
      simp only at e1
      have e2 : upT (n + 1) rootT = [rootT] := by unfold upT; rw [if_pos rfl]
      unfold tag_chain.l0
      rw [e1, e2]
      simp only [Option.bind_some]
      rw [if_pos (txt_small z hc), hnone]
      simp only
      rw [if_pos (by omega), copied_f hc]
      simp only [Option.bind_some]
      rw [if_pos ((und_iff _).2 txt_root)]
      rfl
    · have hx : txtT t ≠ UND := fun h => hr (und_only hc h)
      obtain ⟨M2, hM2⟩ := ih (nextT t) (fun q => if q = txtT t then some (acc.length : Int) else hd q) (acc ++ [toS t]) (by have := far_next hr; omega) (chk_next hc) (sz_next z) (by simp; omega) (by
        intro y hy
        by_cases hq : t.2.2.2.2 = [] ∧ t.2.2.2.1 = [] ∧ L t.2.2.1 = [] ∧ L t.2.1 = []
        · by_cases h1 : y = txtT t
          · exact ⟨by rw [h1]; exact hx, .inl (next_end hq)⟩
          · simp only [if_neg h1] at hy
            exact ⟨(hh y hy).1, .inl (next_end hq)⟩
        · have hlt := txt_next t hq
          by_cases h1 : y = txtT t
          · exact ⟨by rw [h1]; exact hx, .inr (by rw [h1]; exact hlt)⟩
          · simp only [if_neg h1] at hy
            obtain ⟨h2, h3⟩ := hh y hy
            rcases h3 with h3 | h3
            · exact absurd h3 hr
            · exact ⟨h2, .inr (by omega)⟩)
      refine ⟨M + M2, fun m hm k hk => ?_⟩
      obtain ⟨k, rfl⟩ : ∃ q, k = q + 1 := ⟨k - 1, by omega⟩
      have hnone : hd (txtT t) = none := Classical.byContradiction fun h => by
        rcases (hh _ h).2 with h3 | h3
        · exact hr h3
        · omega
      have e1 := hM m (by omega)
      simp only at e1
      have e2 : upT (n + 1) t = t :: upT n (nextT t) := by
        show (if t = rootT then _ else _) = _
        rw [if_neg hr]
      unfold tag_chain.l0
      rw [e1, e2]
      simp only [Option.bind_some]
      rw [if_pos (txt_small z hc), hnone]
      simp only
      rw [if_pos (by omega), copied_f hc]
      simp only [Option.bind_some]
      rw [if_neg (fun h => hx ((und_iff _).1 h)), parent_up t _ (txt_small z hc) e1]
      simp only [Option.bind_some]
      have e3 := hM2 m (by omega) k (by omega)
      rw [List.append_assoc] at e3
      exact e3
theorem far_few {t : Tg} (h : chkT t = 0) : farT t ≤ 131 := by
  have := few_of h
  unfold farT
  have e1 := neT_le t.2.2.1
  have e2 := neT_le t.2.1
  have e3 := neT_le t.1
  omega
theorem chainUp_f {t : Tg} (z : SzT t) : Ev (fun k => tag_Chain.f k t.1 t.2.1 t.2.2.1 t.2.2.2.1 t.2.2.2.2 []) (if chkT t = 0 then ((upT 131 t).map toS, 0) else ([], chkT t)) := by
  unfold tag_Chain.f
  simp only [List.length_nil, if_true]
  refine Ev.bind (check_f z) ?_
  have e : checkP t.1 t.2.1 t.2.2.1 t.2.2.2.1 t.2.2.2.2 = chkT t := rfl
  rw [e]
  by_cases h : chkT t = 0
  · simp only [if_pos h]
    obtain ⟨M, hM⟩ := chain_up 131 t (fun _ => none) [] (far_few h) h z (by simp) (fun y hy => absurd rfl hy)
    refine ⟨M + 132, fun k hk => ?_⟩
    exact hM k (by omega) k (by omega)
  · simp only [if_neg h]; exact Ev.now _
theorem up_head (n : Nat) (t : Tg) : (upT n t)[0]? = some t := by
  cases n with
  | zero => rfl
  | succ n => unfold upT; split <;> rfl
theorem up_len : ∀ (n : Nat) (t : Tg), 1 ≤ (upT n t).length ∧ (upT n t).length ≤ n + 1
  | 0, t => ⟨Nat.le_refl _, Nat.le_refl _⟩
  | n + 1, t => by
    have := up_len n (nextT t)
    unfold upT
    split
    · exact ⟨Nat.le_refl _, by simp⟩
    · simp only [List.length_cons]; omega
theorem up_last : ∀ (n : Nat) (t : Tg), farT t ≤ n → (upT n t)[(upT n t).length - 1]? = some rootT
  | 0, t, h => by obtain rfl := far_root (Nat.le_zero.1 h); rfl
  | n + 1, t, h => by
    unfold upT
    split
    · rename_i hr; rw [hr]; rfl
    · rename_i hr
      have ih := up_last n (nextT t) (by have := far_next hr; omega)
      have hl := up_len n (nextT t)
      obtain ⟨q, hq⟩ : ∃ q, (upT n (nextT t)).length = q + 1 := ⟨_, (Nat.succ_pred_eq_of_pos hl.1).symm⟩
      rw [hq] at ih
      rw [List.length_cons, hq]
      simpa using ih
theorem up_adj : ∀ (n : Nat) (t : Tg) (i : Nat) (a b : Tg), SzT t → chkT t = 0 → (upT n t)[i]? = some a → (upT n t)[i + 1]? = some b → b = nextT a ∧ a ≠ rootT ∧ chkT a = 0 ∧ SzT a
  | 0, t, i, a, b, z, hc, h1, h2 => by simp [upT] at h2
  | n + 1, t, i, a, b, z, hc, h1, h2 => by
    unfold upT at h1 h2
    by_cases hr : t = rootT
    · rw [if_pos hr] at h2; simp at h2
    · rw [if_neg hr] at h1 h2
      rw [List.getElem?_cons_succ] at h2
      cases i with
      | zero =>
        rw [up_head] at h2
        obtain rfl := Option.some.inj h2
        obtain rfl := Option.some.inj h1
        exact ⟨rfl, hr, hc, z⟩
      | succ i =>
        rw [List.getElem?_cons_succ] at h1
        exact up_adj n (nextT t) i a b (sz_next z) (chk_next hc) h1 h2
theorem rdS_c {xs : List Tg} {i : Nat} {a : Tg} (h : xs[i]? = some a) : rd_T25 (xs.map toS) (i : Int) = toS a := by simp [rd_T25, h]
theorem tup_l0 (xs : List Tg) (hn : xs.length ≤ 1000) (ha : ∀ i a b, xs[i]? = some a → xs[i + 1]? = some b → b = nextT a ∧ a ≠ rootT ∧ chkT a = 0 ∧ SzT a) : ∀ (d i : Nat), xs.length - (i + 1) = d → i + 1 ≤ xs.length → Ev (fun k => idiomlaw07_TagUp.l0 k (xs.map toS) ((i + 1 : Nat) : Int)) true := by
  intro d
  induction d with
  | zero =>
    intro i hd hi
    refine Ev.step (f := fun k => (idiomlaw07_awake.f k).bind fun t303 => some t303) (fun k => ?_) (Ev.bind awake_f1 (Ev.now _))
    simp only [idiomlaw07_TagUp.l0, List.length_map]
    rw [if_neg (by omega)]
  | succ d ih =>
    intro i hd hi
    have i2 := ih (i + 1) (by omega) (by omega)
    obtain ⟨a, h1, _⟩ := drop_getD (V := xs) (i := i) (by omega)
    obtain ⟨b, h2, _⟩ := drop_getD (V := xs) (i := i + 1) (by omega)
    obtain ⟨rfl, hr, hc, z⟩ := ha i a b h1 h2
    have hw : wrap64 (((i + 1 : Nat) : Int) + 1) = ((i + 1 + 1 : Nat) : Int) := w64 (by omega)
    refine Ev.step (f := fun k => (tag_Within.f k a.1 a.2.1 a.2.2.1 a.2.2.2.1 a.2.2.2.2 (nextT a).1 (nextT a).2.1 (nextT a).2.2.1 (nextT a).2.2.2.1 (nextT a).2.2.2.2).bind fun bt => if bt.2 = 0 then (if bt.1 = true then (idiomref07_Same.f k a.1 a.2.1 a.2.2.1 a.2.2.2.1 a.2.2.2.2 (nextT a).1 (nextT a).2.1 (nextT a).2.2.1 (nextT a).2.2.2.1 (nextT a).2.2.2.2).bind fun t => idiomlaw07_TagUp.j2 k (xs.map toS) ((i + 1 : Nat) : Int) t else idiomlaw07_TagUp.j2 k (xs.map toS) ((i + 1 : Nat) : Int) true) else idiomlaw07_TagUp.j2 k (xs.map toS) ((i + 1 : Nat) : Int) true) (fun k => ?_) (Ev.bind (within_f z (sz_next z)) ?_)
    · simp only [idiomlaw07_TagUp.l0, List.length_map]
      rw [if_pos (by omega), w64_pred i (by omega), if_pos (by omega), if_pos (by omega), if_pos (by omega), rdS_c h1, rdS_c h2]
      rfl
    · have e : withinP a.1 a.2.1 a.2.2.1 a.2.2.2.1 a.2.2.2.2 (nextT a).1 (nextT a).2.1 (nextT a).2.2.1 (nextT a).2.2.2.1 (nextT a).2.2.2.2 = (true, 0) := in_next hc
      rw [e]
      simp only [if_true]
      refine Ev.bind (same_g _ _ _ _ _ _ _ _ _ _ z.nV z.nK) ?_
      have e2 : decide (a.1 = (nextT a).1 ∧ a.2.1 = (nextT a).2.1 ∧ a.2.2.1 = (nextT a).2.2.1 ∧ a.2.2.2.1 = (nextT a).2.2.2.1 ∧ a.2.2.2.2 = (nextT a).2.2.2.2) = false := decide_eq_false (fun ⟨q1, q2, q3, q4, q5⟩ => next_ne hc hr (Prod.ext q1 (Prod.ext q2 (Prod.ext q3 (Prod.ext q4 q5)))))
      rw [e2]
      refine Ev.step (fun k => ?_) i2
      simp only [idiomlaw07_TagUp.j2]
      rw [if_neg (by simp), hw]
theorem TagUp {l s r : ByteArray} {V : List ByteArray} {K : List Ke} (z : Sz l s r V K) : Ev (fun k => idiomlaw07_TagUp.f k l s r V K) true := by
  obtain ⟨t, ht⟩ : ∃ t : Tg, t = (l, s, r, V, K) := ⟨_, rfl⟩
  have zt : SzT t := by rw [ht]; exact z
  have hch := chainUp_f zt
  have ec : checkP l s r V K = chkT t := by rw [ht]; rfl
  rw [show t.1 = l by rw [ht], show t.2.1 = s by rw [ht], show t.2.2.1 = r by rw [ht], show t.2.2.2.1 = V by rw [ht], show t.2.2.2.2 = K by rw [ht]] at hch
  unfold idiomlaw07_TagUp.f
  refine Ev.bind hch ?_
  by_cases h : chkT t = 0
  · simp only [if_pos h, if_true]
    obtain ⟨xs, hxs⟩ : ∃ xs, xs = upT 131 t := ⟨_, rfl⟩
    have hl := up_len 131 t
    have h0 := up_head 131 t
    have hz := up_last 131 t (far_few h)
    have ha := up_adj 131 t
    rw [← hxs] at hl h0 hz ha ⊢
    simp only [List.length_map]
    have r0 : rd_T25 (xs.map toS) 0 = toS t := rdS_c (i := 0) h0
    have hw : wrap64 ((xs.length : Int) - 1) = ((xs.length - 1 : Nat) : Int) := by rw [w64 (by omega)]; omega
    have r1 : rd_T25 (xs.map toS) ((xs.length - 1 : Nat) : Int) = toS rootT := rdS_c hz
    simp only [if_neg (show ¬ (xs.length : Int) = 0 by omega), if_pos (show (0 : Int) < (xs.length : Int) by omega), r0, hw, if_pos (show (0 : Int) ≤ ((xs.length - 1 : Nat) : Int) by omega), if_pos (show ((xs.length - 1 : Nat) : Int) < (xs.length : Int) by omega), r1]
    have hs := same_g t.1 t.2.1 t.2.2.1 t.2.2.2.1 t.2.2.2.2 l s r V K (by rw [ht]; exact z.nV) (by rw [ht]; exact z.nK)
    have e1 : decide (t.1 = l ∧ t.2.1 = s ∧ t.2.2.1 = r ∧ t.2.2.2.1 = V ∧ t.2.2.2.2 = K) = true := by rw [ht]; simp
    rw [e1] at hs
    refine Ev.bind hs ?_
    simp only [if_true]
    have zr : Sz rootT.1 rootT.2.1 rootT.2.2.1 rootT.2.2.2.1 rootT.2.2.2.2 := ⟨by decide, by decide, by decide, by decide, by decide, (fun _ h => by cases h), (fun _ h => by cases h)⟩
    have hroot : Ev (fun k => idiomref07_Root.f k rootT.1 rootT.2.1 rootT.2.2.1 rootT.2.2.2.1 rootT.2.2.2.2) true := by
      unfold idiomref07_Root.f
      refine Ev.bind (rtext_f zr (by decide) (by decide)) ?_
      have e : joinT (parts rootT.1 rootT.2.1 rootT.2.2.1 rootT.2.2.2.1 rootT.2.2.2.2) = UND := txt_root
      rw [e]
      have e5 : (UND.toList == ([117, 110, 100] : List UInt8)) = true := beq_iff_eq.mpr ((und_iff UND).2 rfl)
      rw [e5]
      exact Ev.now _
    refine Ev.bind hroot ?_
    refine Ev.step (fun k => ?_) (tup_l0 xs (by omega) (fun i a b h1 h2 => ha i a b zt h h1 h2) (xs.length - 1) 0 rfl hl.1)
    simp only [idiomlaw07_TagUp.j0]
    rw [if_neg (by simp)]; rfl
  · simp only [if_neg h]
    refine Ev.bind (rcheck_f z) ?_
    rw [ec]
    simp only [if_true]
    exact Ev.bind awake_f1 (Ev.now _)
end Go.Proofs.YtphjhbppjakocaaGreatDoor.Pl
