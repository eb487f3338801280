/- The document's reading of keys, told by the same total functions as the program's; conditions: each piece of at most 65536 bytes. -/
import Derived.Test.YtphjhbppjakocaaGreatDoorPl7
import Derived.Test.YtphjhbppjakocaaGreatDoorPPars20
namespace Go.Proofs.YtphjhbppjakocaaGreatDoor.Pl
open Go.RowKit Go.Proofs.YtphjhbppjakocaaGreatDoorW.PrintWords Go.Proofs.YtphjhbppjakocaaGreatDoor.PTag
set_option linter.unusedVariables false
theorem at_cons {all : List Pc} {i : Nat} {p : Pc} {r : List Pc} (h : all.drop i = p :: r) :
    (i : Int) < ((txts all).length : Int) ∧ (i : Int) < ((plcs all).length : Int) ∧ rdOf ByteArray.empty (txts all) (i : Int) = p.f0 ∧ rd (plcs all) (i : Int) = p.f1 ∧ all.drop (i + 1) = r ∧ i < all.length ∧ (i : Int) ≠ ((txts all).length : Int) := by
  have hi : i < all.length := Classical.byContradiction fun hc => by rw [List.drop_eq_nil_of_le (by omega)] at h; cases h
  have h2 := List.drop_eq_getElem_cons hi
  rw [h] at h2
  obtain ⟨e1, e2⟩ := List.cons.inj h2
  have h3 : (txts all).length = all.length := by simp [txts]
  have h4 : (plcs all).length = all.length := by simp [plcs]
  refine ⟨by omega, by omega, ?_, ?_, e2.symm, hi, by omega⟩
  · rw [e1]; simp [rdOf, txts, hi]
  · rw [e1]; simp [rd, plcs, hi]
theorem at_nil {all : List Pc} {i : Nat} (h : all.drop i = []) (hi : i ≤ all.length) : ¬ (i : Int) < ((txts all).length : Int) ∧ (i : Int) = ((txts all).length : Int) := by
  have := drop_nil h
  have h3 : (txts all).length = all.length := by simp [txts]
  omega
theorem sm_drop {all : List Pc} (h : Sm all) (i : Nat) : Sm (all.drop i) := fun p hp => h p (List.mem_of_mem_drop hp)
theorem has_isrt (ks : List Ky) (nm : ByteArray) : hasName (isrt ltK ks) nm = hasName ks nm := by
  rw [Bool.eq_iff_iff]
  simp only [hasName, List.any_eq_true, isrt_mem]
theorem L_app (a b : ByteArray) : L (a ++ b) = L a ++ L b := by simp [L]
theorem join_snoc (d x : Bs) : ∀ l : List Bs, l ≠ [] → Lib.join (l ++ [x]) d = Lib.join l d ++ d ++ x
  | [], h => absurd rfl h
  | [a], _ => by simp [Lib.join, List.intercalate]
  | a :: b :: l, _ => by
    have ih := join_snoc d x (b :: l) (by simp)
    have e1 : ∀ (c : Bs) (m : List Bs), Lib.join (a :: c :: m) d = a ++ d ++ Lib.join (c :: m) d := by intro c m; simp [Lib.join, List.intercalate]
    rw [show (a :: b :: l) ++ [x] = a :: b :: (l ++ [x]) from rfl, e1, e1, show b :: (l ++ [x]) = (b :: l) ++ [x] from rfl, ih]
    simp [List.append_assoc]
theorem joinD_nil : joinD [] = ⟨#[]⟩ := rfl
theorem joinD_one (x : ByteArray) : joinD [x] = x := by unfold joinD; simp [Lib.join, SL]
theorem joinD_snoc (v : List ByteArray) (x : ByteArray) (h : v ≠ []) : joinD (v ++ [x]) = (joinD v ++ (⟨#[45]⟩ : ByteArray)) ++ x := by
  apply L_inj
  rw [L_app, L_app]
  unfold joinD
  rw [LS, LS, List.map_append, List.map_cons, List.map_nil, join_snoc _ _ _ (by simpa using h)]
theorem joinD_ne (v : List ByteArray) (h : v ≠ []) (hp : ∀ x ∈ v, 0 < x.size) : ¬ (joinD v).toList = [] := by
  rw [toList_L]
  unfold joinD
  rw [LS]
  cases v with
  | nil => exact absurd rfl h
  | cons a v =>
    have ha : L a ≠ [] := fun e => by have := hp a (by simp); rw [← L_len, e] at this; simp at this
    cases v with
    | nil => simpa [Lib.join] using ha
    | cons b v => simp [Lib.join, List.intercalate, ha]
theorem joinD_size (v : List ByteArray) (h : ∀ x ∈ v, x.size ≤ 65536) : (joinD v).size ≤ v.length * 65537 := by
  unfold joinD; rw [S_size]; exact joinD_len v h
theorem keys_v (all : List Pc) (hsm : Sm all) (hl : all.length ≤ 65537) (nm : ByteArray) (pl : Int) (l s r : ByteArray) (vs : List ByteArray) (ks : List Ky) {q : ByteArray × ByteArray × ByteArray × List ByteArray × List Ky × Int × Int} :
    ∀ (ps : List Pc) (v : List ByteArray) (i : Nat), all.drop i = ps → i ≤ all.length → v.length ≤ i → (∀ x ∈ v, x.size ≤ 65536) → (∀ x ∈ v, 0 < x.size) →
      (∀ i' : Nat, all.drop i' = (valsP ps v).1 → i' ≤ all.length → Ev (fun k => idiomref07_keys.j4 k (txts all) (plcs all) (i' : Int) nm pl (keptVal (joinD (valsP ps v).2)) l s r vs ks) q) →
      Ev (fun k => idiomref07_keys.l1 k (txts all) (plcs all) (i : Int) nm pl (joinD v) l s r vs ks) q := by
  have stop : ∀ (v : List ByteArray) (i : Nat), Ev (fun k => idiomref07_keys.j4 k (txts all) (plcs all) (i : Int) nm pl (keptVal (joinD v)) l s r vs ks) q → Ev (fun k => idiomref07_keys.j2 k (txts all) (plcs all) (i : Int) nm pl (joinD v) false l s r vs ks) q := by
    intro v i h
    refine Ev.step (fun k => ?_) h
    simp only [idiomref07_keys.j2, keptVal]
    rw [if_neg (by simp)]
    by_cases ht : (joinD v).toList = [116, 114, 117, 101]
    · rw [if_pos ht, if_pos ht]
    · rw [if_neg ht, if_neg ht]
  intro ps
  induction ps with
  | nil =>
    intro v i h hi hv hle hp hq
    have hn := at_nil h hi
    refine Ev.step (fun k => ?_) (stop v i (hq i h hi))
    simp only [idiomref07_keys.l1]
    rw [if_neg hn.1]
  | cons p ps ih =>
    intro v i h hi hv hle hp hq
    obtain ⟨a1, a2, a3, a4, a5, a6, a7⟩ := at_cons h
    have hps : p.f0.size ≤ 65536 := by have := sm_drop hsm i; rw [h] at this; exact this.head
    refine Ev.step (f := fun k => (idiomref07_signs.f k p.f0 3 8).bind fun t => idiomref07_keys.j2 k (txts all) (plcs all) (i : Int) nm pl (joinD v) t l s r vs ks) (fun k => ?_) (Ev.bind (rsigns_f p.f0 3 8 (by omega)) ?_)
    · simp only [idiomref07_keys.l1]
      rw [if_pos a1, if_pos (by omega), a3]
    · cases hs : sgns (L p.f0) 3 8 with
      | false =>
        refine stop v i ?_
        have e : valsP (p :: ps) v = (p :: ps, v) := by simp [valsP, hs]
        have := hq i (by rw [e]; exact h) hi
        rw [e] at this
        exact this
      | true =>
        have hpos : 3 ≤ p.f0.size := by have := (sgns_pos hs).1; rwa [L_len] at this
        have hsz := joinD_size v hle
        have e65 : v.length * 65537 ≤ 65537 * 65537 := Nat.mul_le_mul_right _ (by omega)
        have e : valsP (p :: ps) v = valsP ps (v ++ [low p.f0]) := by simp [valsP, hs]
        have next := ih (v ++ [low p.f0]) (i + 1) a5 (by omega) (by simp; omega)
          (fun x hx => by
            rcases List.mem_append.1 hx with hx | hx
            · exact hle x hx
            · obtain rfl : x = low p.f0 := by simpa using hx
              rw [low_size]; exact hps)
          (fun x hx => by
            rcases List.mem_append.1 hx with hx | hx
            · exact hp x hx
            · obtain rfl : x = low p.f0 := by simpa using hx
              rw [low_size]; omega)
          (by rw [e] at hq; exact hq)
        have j3 : ∀ x : ByteArray, x ++ low p.f0 = joinD (v ++ [low p.f0]) → x.size ≤ 65537 * 65537 + 1 → Ev (fun k => idiomref07_keys.j3 k (txts all) (plcs all) (i : Int) nm pl x l s r vs ks) q := by
          intro x hx hxs
          refine Ev.step (fun k => ?_) next
          simp only [idiomref07_keys.j3]
          rw [if_pos (by omega), if_pos a1, a3, small_f _ (by omega)]
          simp only [Option.bind_some]
          rw [low_size, if_pos (by omega), hx, w64 (by omega)]
          rfl
        by_cases hv0 : v = []
        · subst hv0
          refine Ev.step (fun k => ?_) (j3 (joinD []) (by rw [List.nil_append, joinD_one, joinD_nil]; apply L_inj; rw [L_app]; rfl) (by rw [joinD_nil]; show 0 ≤ _; omega))
          simp only [idiomref07_keys.j2]
          rw [if_pos trivial, if_pos (by rw [toList_L]; rfl)]
        · refine Ev.step (fun k => ?_) (j3 (joinD v ++ (⟨#[45]⟩ : ByteArray)) (joinD_snoc v _ hv0).symm (by rw [ByteArray.size_append]; show _ + 1 ≤ _; omega))
          simp only [idiomref07_keys.j2]
          rw [if_pos trivial, if_neg (joinD_ne v hv0 hp), if_pos (by omega)]
def kplc (q : Int × List Pc × List Ky) : Int × Int := if q.1 = 0 then (match q.2.1 with | [] => (0, 0) | p :: _ => (p.f1, 70)) else (nowAt 0 q.2.1, q.1)
theorem keysR_l (all : List Pc) (hsm : Sm all) (hl : all.length ≤ 65537) (l s r : ByteArray) (vs : List ByteArray) :
    ∀ (n : Nat) (ps : List Pc) (ks : List Ky) (i : Nat), all.drop i = ps → i ≤ all.length → ps.length < n → ks.length ≤ 64 →
      Ev (fun k => idiomref07_keys.l0 k (txts all) (plcs all) (i : Int) l s r vs (isrt ltK ks)) (l, s, r, vs, isrt ltK (keysP n ps ks).2.2, kplc (keysP n ps ks)) := by
  intro n
  induction n with
  | zero => intro ps ks i h hi hn; omega
  | succ n ih =>
    intro ps ks i h hi hn hk
    cases ps with
    | nil =>
      have hna := at_nil h hi
      refine Ev.step (f := fun _ => some (l, s, r, vs, isrt ltK ks, 0, 0)) (fun k => ?_) (Ev.now _)
      simp only [idiomref07_keys.l0]
      rw [if_neg hna.1]
    | cons p ps =>
      obtain ⟨a1, a2, a3, a4, a5, a6, a7⟩ := at_cons h
      have hsd := sm_drop hsm i
      rw [h] at hsd
      have hps := hsd.head
      rw [List.length_cons] at hn
      refine Ev.step (f := fun k => (idiomref07_signs.f k p.f0 2 2).bind fun t => if t = true then idiomref07_keys.l1 k (txts all) (plcs all) ((i + 1 : Nat) : Int) (low p.f0) p.f1 (joinD []) l s r vs (isrt ltK ks) else some (l, s, r, vs, isrt ltK ks, p.f1, 70)) (fun k => ?_) (Ev.bind (rsigns_f p.f0 2 2 (by omega)) ?_)
      · simp only [idiomref07_keys.l0]
        rw [if_pos a1, if_pos (by omega), a3, small_f _ (by omega), a4, w64 (by omega)]
        simp only [Option.bind_some, if_pos a2]
        rfl
      · cases hs : sgns (L p.f0) 2 2 with
        | false =>
          have e : keysP (n + 1) (p :: ps) ks = (0, p :: ps, ks) := by simp [keysP, hs]
          rw [e]
          exact Ev.now _
        | true =>
          simp only [if_true]
          refine keys_v all hsm hl _ _ l s r vs _ ps [] (i + 1) a5 (by omega) (by simp) (by simp) (by simp) (fun i' h' hi' => ?_)
          have hvl := (valsP_sm ps [] hsd.tail).2.1
          refine Ev.step (f := fun k => (idiomref07_putKey.f k (isrt ltK ks) (low p.f0) (keptVal (joinD (valsP ps []).2))).bind fun bt => if bt.2 = true then (if (bt.1.length : Int) > 64 then some (l, s, r, vs, isrt ltK ks, p.f1, 5) else idiomref07_keys.l0 k (txts all) (plcs all) (i' : Int) l s r vs bt.1) else some (l, s, r, vs, isrt ltK ks, p.f1, 6)) (fun k => rfl) (Ev.bind (putK_f _ _ _ (by rw [isrt_len]; exact hk)) ?_)
          rw [has_isrt]
          cases hh : hasName ks (low p.f0) with
          | true =>
            have e : keysP (n + 1) (p :: ps) ks = (6, p :: ps, ks) := by simp [keysP, hs, hh]
            rw [e]
            exact Ev.now _
          | false =>
            simp only [Bool.false_eq_true, if_false, if_true]
            rw [← isrt_snoc, isrt_len]
            simp only [List.length_append, List.length_cons, List.length_nil]
            by_cases h64 : ks.length = 64
            · have e : keysP (n + 1) (p :: ps) ks = (5, p :: ps, ks) := by simp [keysP, hs, hh, h64]
              rw [e, h64]
              exact Ev.now _
            · have e : keysP (n + 1) (p :: ps) ks = keysP n (valsP ps []).1 (ks ++ [⟨low p.f0, keptVal (joinD (valsP ps []).2)⟩]) := by simp [keysP, hs, hh, h64]
              rw [e]
              simp only [if_neg (show ¬ ((ks.length + (0 + 1) : Nat) : Int) > 64 by omega)]
              exact ih _ _ i' h' hi' (by omega) (by simp; omega)
theorem nm1_snoc {ks : List Ky} (h : Nm1 ks) {a : ByteArray} (ha : hasName ks a = false) (b : ByteArray) : Nm1 (ks ++ [⟨a, b⟩]) := by
  refine List.pairwise_append.2 ⟨h, by simp, fun x hx y hy => ?_⟩
  obtain rfl : y = ⟨a, b⟩ := by simpa using hy
  exact fun e => nm_not ha hx (by rw [e])
theorem keysP_nm1 : ∀ (n : Nat) (ps : List Pc) (ks : List Ky), Nm1 ks → Nm1 (keysP n ps ks).2.2
  | 0, ps, ks, hk => hk
  | n + 1, [], ks, hk => hk
  | n + 1, p :: ps, ks, hk => by
    simp only [keysP]
    split
    · split
      · exact hk
      · rename_i h1 h2
        split
        · exact hk
        · exact keysP_nm1 n _ _ (nm1_snoc hk (by simpa using h2) _)
    · exact hk
theorem keysP_grow : ∀ (n : Nat) (ps : List Pc) (ks : List Ky), ks.length ≤ (keysP n ps ks).2.2.length
  | 0, ps, ks => Nat.le_refl _
  | n + 1, [], ks => Nat.le_refl _
  | n + 1, p :: ps, ks => by
    simp only [keysP]
    split
    · split
      · exact Nat.le_refl _
      · split
        · exact Nat.le_refl _
        · have := keysP_grow n (valsP ps []).1 (ks ++ [⟨low p.f0, keptVal (joinD (valsP ps []).2)⟩])
          simp at this
          omega
    · exact Nat.le_refl _
theorem keysP_none (n : Nat) (ps : List Pc) (h0 : (keysP (n + 1) ps []).1 = 0) (h : (keysP (n + 1) ps []).2.2.length = 0) : (keysP (n + 1) ps []).2.1 = ps := by
  cases ps with
  | nil => rfl
  | cons p ps =>
    simp only [keysP] at h h0 ⊢
    split at h
    · split at h
      · rename_i h1 h2; exact absurd h2 (by simp [hasName])
      · rw [if_neg (by simp)] at h
        have := keysP_grow n (valsP ps []).1 ([] ++ [⟨low p.f0, keptVal (joinD (valsP ps []).2)⟩])
        simp only [List.length_append, List.length_cons, List.length_nil] at this
        omega
    · rename_i h1; simp [h1]
end Go.Proofs.YtphjhbppjakocaaGreatDoor.Pl
