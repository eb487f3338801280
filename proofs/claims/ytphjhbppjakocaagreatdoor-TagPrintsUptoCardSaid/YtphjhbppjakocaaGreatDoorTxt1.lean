/- A tag's text: the program's and the document's tell the same; conditions: texts of at most 1048576 bytes, at most 64 variants and 64 keys. -/
import Derived.Test.YtphjhbppjakocaaGreatDoorChk4
import Derived.Test.YtphjhbppjakocaaGreatDoorPU15
import Derived.Test.YtphjhbppjakocaaGreatDoorPU19
import Derived.Test.YtphjhbppjakocaaGreatDoorPU14
namespace Go.Proofs.YtphjhbppjakocaaGreatDoor.Pl
open Go.RowKit Go.Proofs.YtphjhbppjakocaaGreatDoorW.PrintWords Go.Proofs.YtphjhbppjakocaaGreatDoor.PTag
set_option linter.unusedVariables false
theorem L_app (a b : ByteArray) : L (a ++ b) = L a ++ L b := by simp [L]
def joinT (v : List ByteArray) : ByteArray := S (Lib.join (v.map L) [45])
theorem joinT_lenB : ∀ (v : List ByteArray), (∀ x ∈ v, x.size ≤ 1048576) → (Lib.join (v.map L) [45]).length ≤ v.length * 1048577
  | [], _ => by simp [Lib.join]
  | [a], h => by
    have := h a (by simp)
    simp [Lib.join]; omega
  | a :: b :: r, h => by
    have ih := joinT_lenB (b :: r) (fun x hx => h x (List.mem_cons_of_mem _ hx))
    have ha := h a (by simp)
    have : Lib.join ((a :: b :: r).map L) [45] = L a ++ [45] ++ Lib.join ((b :: r).map L) [45] := by
      simp [Lib.join, List.intercalate]
    rw [this, List.length_append, List.length_append, L_len]
    simp only [List.length_cons, List.length_nil] at ih ⊢
    omega
def Bd (n : Nat) (ps : List ByteArray) : Prop := ps.length ≤ n ∧ ∀ x ∈ ps, x.size ≤ 1048576
theorem Bd.app {n : Nat} {ps : List ByteArray} (h : Bd n ps) {x : ByteArray} (hx : x.size ≤ 1048576) : Bd (n + 1) (ps ++ [x]) := ⟨by rw [List.length_append]; have := h.1; simp; omega, fun y hy => by
  rcases List.mem_append.1 hy with h1 | h1
  · exact h.2 y h1
  · obtain rfl := List.mem_singleton.1 h1; exact hx⟩
theorem Bd.le {n m : Nat} {ps : List ByteArray} (h : Bd n ps) (hm : n ≤ m) : Bd m ps := ⟨Nat.le_trans h.1 hm, h.2⟩
theorem joinT_size {n : Nat} {ps : List ByteArray} (h : Bd n ps) (hn : n ≤ 1000) : (joinT ps).size ≤ 1048577000 := by
  unfold joinT
  rw [S_size]
  have := joinT_lenB ps h.2
  have h1 : ps.length * 1048577 ≤ 1000 * 1048577 := Nat.mul_le_mul_right _ (Nat.le_trans h.1 hn)
  omega
theorem join_fB (v : List ByteArray) {n : Nat} (h : Bd n v) (hn : n ≤ 1000) : strings_Join.f v ⟨#[45]⟩ = some (joinT v) := by
  have h0 := h.1
  have := joinT_lenB v h.2
  have h1 : v.length * 1048577 ≤ 1000 * 1048577 := Nat.mul_le_mul_right _ (Nat.le_trans h.1 hn)
  unfold strings_Join.f
  rw [if_pos (by omega)]
  have e2 : (Lib.join (v.map (·.data.toList)) (⟨#[45]⟩ : ByteArray).data.toList) = Lib.join (v.map L) [45] := rfl
  rw [e2, if_pos (by omega)]; rfl
theorem joinT_app {ps : List ByteArray} (h : ps ≠ []) (x : ByteArray) : joinT (ps ++ [x]) = joinT ps ++ (⟨#[45]⟩ : ByteArray) ++ x := by
  apply L_inj
  rw [L_app, L_app]
  unfold joinT
  rw [LS, LS]
  cases ps with
  | nil => exact absurd rfl h
  | cons a r =>
    rw [List.cons_append, List.map_cons, List.map_cons, Lib.join_cons, Lib.join_cons, List.map_append]
    simp [Lib.joinTail, L]
def UND : ByteArray := ⟨#[117, 110, 100]⟩
def UU : ByteArray := ⟨#[117]⟩
def nonE (x : ByteArray) : List ByteArray := if L x = [] then [] else [x]
def flatK : List Ke → List ByteArray
  | [] => []
  | x :: ks => (x.f0 :: nonE x.f1) ++ flatK ks
def langT (l : ByteArray) : ByteArray := if L l = [] then UND else l
def uK (K : List Ke) : List ByteArray := if K.length > 0 then [UU] else []
def parts (l s r : ByteArray) (V : List ByteArray) (K : List Ke) : List ByteArray := ([langT l] ++ nonE s ++ nonE r ++ V ++ uK K) ++ flatK K
theorem nonE_none {x : ByteArray} (h : L x = []) : nonE x = [] := if_pos h
theorem nonE_some {x : ByteArray} (h : ¬ L x = []) : nonE x = [x] := if_neg h
theorem tt_l0 (K : List Ke) (hK : K.length ≤ 64) (hz : ∀ x ∈ K, x.f0.size ≤ 1048576 ∧ x.f1.size ≤ 1048576) : ∀ (ys : List Ke) (i : Nat) (ps : List ByteArray), K.drop i = ys → i ≤ K.length → Bd (100 + 2 * i) ps →
    Ev (fun k => tag_text.l0 k ps K (K.length : Int) (i : Int)) (joinT (ps ++ flatK ys))
  | [], i, ps, h, hi, hb => by
    have hi2 : K.length ≤ i := List.drop_eq_nil_iff.1 h
    refine Ev.step (f := fun _ => some (joinT ps)) (fun k => ?_) (by simpa [flatK] using Ev.now _)
    simp only [tag_text.l0]
    rw [if_neg (by omega), join_fB ps hb (by omega)]; rfl
  | x :: ys, i, ps, h, hi, hb => by
    obtain ⟨hi2, hx, hn⟩ := drop_cons h
    have hq := hz x (List.mem_of_getElem? hx)
    have hw : wrap64 ((i : Int) + 1) = ((i + 1 : Nat) : Int) := w64 (by omega)
    have b1 : Bd (101 + 2 * i) (ps ++ [x.f0]) := (hb.app hq.1).le (by omega)
    have l1 := hb.1
    have l2 := b1.1
    unfold flatK
    by_cases h0 : L x.f1 = []
    · have h0' : x.f1.toList = [] := by rw [toList_L]; exact h0
      have ih := tt_l0 K hK hz ys (i + 1) (ps ++ [x.f0]) hn (by omega) (b1.le (by omega))
      rw [nonE_none h0]
      rw [List.append_assoc] at ih
      refine Ev.step (fun k => ?_) ih
      simp only [tag_text.l0]
      rw [if_pos (by omega), if_pos (by omega), if_pos (by omega), if_pos (by omega), rdK_c hx]
      simp only [Option.bind_some]
      rw [if_pos h0', hw]
    · have h0' : ¬ x.f1.toList = [] := by rw [toList_L]; exact h0
      have ih := tt_l0 K hK hz ys (i + 1) (ps ++ [x.f0] ++ [x.f1]) hn (by omega) ((b1.app hq.2).le (by omega))
      rw [nonE_some h0]
      have e : ps ++ [x.f0] ++ [x.f1] ++ flatK ys = ps ++ (x.f0 :: [x.f1] ++ flatK ys) := by simp
      rw [e] at ih
      refine Ev.step (fun k => ?_) ih
      simp only [tag_text.l0]
      rw [if_pos (by omega), if_pos (by omega), if_pos (by omega), if_pos (by omega), rdK_c hx]
      simp only [Option.bind_some]
      rw [if_neg h0', if_pos (by omega), hw]
theorem text_f {l s r : ByteArray} {V : List ByteArray} {K : List Ke} (z : Sz l s r V K) (hV : V.length ≤ 64) (hK : K.length ≤ 64) : Ev (fun k => tag_text.f k l s r V K) (joinT (parts l s r V K)) := by
  have t3 : ∀ ps, Bd 100 ps → Ev (fun k => tag_text.j3 k ps l s r V K) (joinT (ps ++ flatK K)) := fun ps hb =>
    Ev.step (f := fun k => tag_text.l0 k ps K (K.length : Int) 0) (fun k => by simp only [tag_text.j3]) (tt_l0 K hK z.vK K 0 ps rfl (by omega) hb)
  have t2 : ∀ ps, Bd 3 ps → Ev (fun k => tag_text.j2 k ps l s r V K) (joinT ((ps ++ V ++ uK K) ++ flatK K)) := by
    intro ps hb
    have hl := hb.1
    have b1 : Bd 67 (ps ++ V) := ⟨by rw [List.length_append]; omega, fun x hx => by
      rcases List.mem_append.1 hx with h1 | h1
      · exact hb.2 x h1
      · exact z.vV x h1⟩
    have hl1 := b1.1
    unfold uK
    by_cases h0 : K.length > 0
    · rw [if_pos h0]
      refine Ev.step (fun k => ?_) (t3 _ ((b1.app (x := UU) (by decide)).le (by omega)))
      simp only [tag_text.j2]
      rw [if_pos (by omega)]
      simp only [Option.bind_some]
      rw [if_pos (by omega), if_pos (by omega)]; rfl
    · rw [if_neg h0, List.append_nil]
      refine Ev.step (fun k => ?_) (t3 _ (b1.le (by omega)))
      simp only [tag_text.j2]
      rw [if_pos (by omega)]
      simp only [Option.bind_some]
      rw [if_neg (by omega)]
  have t1 : ∀ ps, Bd 2 ps → Ev (fun k => tag_text.j1 k ps l s r V K) (joinT ((ps ++ nonE r ++ V ++ uK K) ++ flatK K)) := by
    intro ps hb
    have hl := hb.1
    by_cases h0 : L r = []
    · have h0' : r.toList = [] := by rw [toList_L]; exact h0
      rw [nonE_none h0, List.append_nil]
      refine Ev.step (fun k => ?_) (t2 ps (hb.le (by omega)))
      simp only [tag_text.j1]
      rw [if_pos h0']
    · have h0' : ¬ r.toList = [] := by rw [toList_L]; exact h0
      rw [nonE_some h0]
      refine Ev.step (fun k => ?_) (t2 _ (hb.app z.r))
      simp only [tag_text.j1]
      rw [if_neg h0', if_pos (by omega)]
  have t0 : ∀ ps, Bd 1 ps → Ev (fun k => tag_text.j0 k ps l s r V K) (joinT ((ps ++ nonE s ++ nonE r ++ V ++ uK K) ++ flatK K)) := by
    intro ps hb
    have hl := hb.1
    by_cases h0 : L s = []
    · have h0' : s.toList = [] := by rw [toList_L]; exact h0
      rw [nonE_none h0, List.append_nil]
      refine Ev.step (fun k => ?_) (t1 ps (hb.le (by omega)))
      simp only [tag_text.j0]
      rw [if_pos h0']
    · have h0' : ¬ s.toList = [] := by rw [toList_L]; exact h0
      rw [nonE_some h0]
      refine Ev.step (fun k => ?_) (t1 _ (hb.app z.s))
      simp only [tag_text.j0]
      rw [if_neg h0', if_pos (by omega)]
  have b0 : ∀ x : ByteArray, x.size ≤ 1048576 → Bd 1 [x] := fun x hx => ⟨by simp, fun y hy => by obtain rfl := List.mem_singleton.1 hy; exact hx⟩
  unfold tag_text.f parts langT
  simp only [Option.bind_some]
  by_cases h0 : L l = []
  · have h0' : l.toList = [] := by rw [toList_L]; exact h0
    rw [if_pos h0]
    simp only [if_pos h0', if_pos (show (0 : Int) < (([l] : List ByteArray).length : Int) by simp)]
    exact t0 [UND] (b0 UND (by decide))
  · have h0' : ¬ l.toList = [] := by rw [toList_L]; exact h0
    rw [if_neg h0]
    simp only [if_neg h0']
    exact t0 [l] (b0 l z.l)
end Go.Proofs.YtphjhbppjakocaaGreatDoor.Pl
