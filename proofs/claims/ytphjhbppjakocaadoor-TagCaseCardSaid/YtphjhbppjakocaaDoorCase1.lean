/- Letters' size makes no difference: what Parse tells of pieces is what it tells of the pieces in small letters; conditions: none. -/
import Derived.Test.YtphjhbppjakocaaDoorPl5
namespace Go.Proofs.YtphjhbppjakocaaDoor.Pl
open Go.RowKit Go.Proofs.YtphjhbppjakocaaDoorW.PrintWords Go.Proofs.YtphjhbppjakocaaDoor.PTag
set_option linter.unusedVariables false
set_option maxRecDepth 100000 in
theorem lowB_cls (c : UInt8) : lowB (lowB c) = lowB c ∧ upB (lowB c) = upB c ∧ isL (lowB c) = isL c ∧ isD (lowB c) = isD c ∧ sepB (lowB c) = sepB c :=
  all_u8 (p := fun c => lowB (lowB c) = lowB c ∧ upB (lowB c) = upB c ∧ isL (lowB c) = isL c ∧ isD (lowB c) = isD c ∧ sepB (lowB c) = sepB c) (by decide +kernel) c
theorem isS_low (c : UInt8) : isS (lowB c) = isS c := by unfold isS; rw [(lowB_cls c).2.2.1, (lowB_cls c).2.2.2.1]
theorem L_low (s : ByteArray) : L (low s) = (L s).map lowB := by unfold low; rw [LS]
theorem all_low (l : Bs) (p : UInt8 → Bool) (h : ∀ c, p (lowB c) = p c) : (l.map lowB).all p = l.all p := by
  induction l with
  | nil => rfl
  | cons c l ih => simp only [List.map_cons, List.all_cons, h, ih]
theorem lets_low (s : ByteArray) (a b : Nat) : lets (L (low s)) a b = lets (L s) a b := by
  unfold lets; rw [L_low, all_low _ _ (fun c => (lowB_cls c).2.2.1), List.length_map]
theorem sgns_low (s : ByteArray) (a b : Nat) : sgns (L (low s)) a b = sgns (L s) a b := by
  unfold sgns; rw [L_low, all_low _ _ isS_low, List.length_map]
theorem nums_low (s : ByteArray) : nums (L (low s)) = nums (L s) := by
  unfold nums; rw [L_low, all_low _ _ (fun c => (lowB_cls c).2.2.2.1), List.length_map]
theorem regn_low (s : ByteArray) : regn (L (low s)) = regn (L s) := by unfold regn; rw [lets_low, nums_low]
theorem vart_low (s : ByteArray) : vart (L (low s)) = vart (L s) := by
  unfold vart; rw [sgns_low, sgns_low, L_low]
  cases L s with
  | nil => rfl
  | cons c l => simp only [List.map_cons, List.headD_cons, (lowB_cls c).2.2.2.1]
theorem low_low (s : ByteArray) : low (low s) = low s := by
  apply L_inj; rw [L_low, L_low, List.map_map]; congr 1; funext c; exact (lowB_cls c).1
theorem L_upp (s : ByteArray) : L (upp s) = (L s).map upB := by unfold upp; rw [LS]
theorem upp_low (s : ByteArray) : upp (low s) = upp s := by
  apply L_inj; rw [L_upp, L_upp, L_low, List.map_map]; congr 1; funext c; exact (lowB_cls c).2.1
theorem L_ext (s : ByteArray) (a b : Nat) : L (s.extract a b) = ((L s).take b).drop a := by
  simp [L, ByteArray.data_extract, Array.toList_extract, List.drop_take]
theorem low_ext (s : ByteArray) (a b : Nat) : (low s).extract a b = low (s.extract a b) := by
  apply L_inj; rw [L_ext, L_low, L_low, L_ext, List.map_drop, List.map_take]
theorem titl_low (s : ByteArray) : titl (low s) = titl s := by
  unfold titl; rw [low_ext, low_ext, low_size, upp_low, low_low]
/-- A piece in small letters. -/
def nrm (p : Pc) : Pc := ⟨low p.f0, p.f1⟩
theorem nowT_nrm (ps : List Pc) : nowT (ps.map nrm) = low (nowT ps) := by cases ps <;> rfl
theorem nowAt_nrm (e : Int) (ps : List Pc) : nowAt e (ps.map nrm) = nowAt e ps := by cases ps <;> rfl
theorem tail_nrm (ps : List Pc) : (ps.map nrm).tail = ps.tail.map nrm := by cases ps <;> rfl
theorem varsP_nrm : ∀ (ps : List Pc) (vs : List ByteArray), varsP (ps.map nrm) vs = ((varsP ps vs).1, (varsP ps vs).2.1.map nrm, (varsP ps vs).2.2)
  | [], vs => rfl
  | p :: ps, vs => by
    have ih := varsP_nrm ps (vs ++ [low p.f0])
    simp only [List.map_cons, varsP, nrm, vart_low, low_low]
    split
    · split
      · rfl
      · split
        · rfl
        · exact ih
    · rfl
theorem valsP_nrm : ∀ (ps : List Pc) (vs : List ByteArray), valsP (ps.map nrm) vs = ((valsP ps vs).1.map nrm, (valsP ps vs).2)
  | [], vs => rfl
  | p :: ps, vs => by
    have ih := valsP_nrm ps (vs ++ [low p.f0])
    simp only [List.map_cons, valsP, nrm, sgns_low, low_low]
    split
    · exact ih
    · rfl
theorem keysP_nrm : ∀ (n : Nat) (ps : List Pc) (ks : List Ky), keysP n (ps.map nrm) ks = ((keysP n ps ks).1, (keysP n ps ks).2.1.map nrm, (keysP n ps ks).2.2)
  | 0, ps, ks => rfl
  | _ + 1, [], ks => rfl
  | n + 1, p :: ps, ks => by
    have ih := keysP_nrm n (valsP ps []).1 (ks ++ [⟨low p.f0, keptVal (joinD (valsP ps []).2)⟩])
    simp only [List.map_cons, keysP, valsP_nrm]
    simp only [nrm, sgns_low, low_low]
    split
    · split
      · rfl
      · split
        · rfl
        · exact ih
    · rfl
theorem headRP_nrm (ps : List Pc) (l s : ByteArray) : headRP (ps.map nrm) l s = ((headRP ps l s).1, (headRP ps l s).2.1.map nrm, (headRP ps l s).2.2) := by
  unfold headRP
  rw [nowT_nrm, regn_low, upp_low, tail_nrm]
  split <;> rfl
theorem headSP_nrm (ps : List Pc) (l : ByteArray) : headSP (ps.map nrm) l = ((headSP ps l).1, (headSP ps l).2.1.map nrm, (headSP ps l).2.2) := by
  unfold headSP
  rw [nowT_nrm, lets_low, titl_low, tail_nrm]
  split
  · exact headRP_nrm _ _ _
  · exact headRP_nrm _ _ _
theorem headP_nrm (ps : List Pc) : headP (ps.map nrm) = ((headP ps).1, (headP ps).2.1.map nrm, (headP ps).2.2) := by
  unfold headP
  rw [nowT_nrm, lets_low, low_low, tail_nrm]
  split
  · exact headSP_nrm _ _
  · rfl
theorem readEnd_nrm (en : Int) (ps : List Pc) (t : TagV) : readEnd en (ps.map nrm) t = readEnd en ps t := by cases ps <;> rfl
theorem readUP_nrm (en : Int) (ps : List Pc) (l s r : ByteArray) (vs : List ByteArray) : readUP en (ps.map nrm) l s r vs = readUP en ps l s r vs := by
  cases ps with
  | nil => rfl
  | cons p pt =>
    simp only [List.map_cons, readUP, List.length_map, keysP_nrm, nowAt_nrm, readEnd_nrm]
    simp only [nrm, low_low]
theorem readP_nrm (ps : List Pc) (en : Int) : readP (ps.map nrm) en = readP ps en := by
  simp only [readP, headP_nrm, varsP_nrm, readUP_nrm, nowAt_nrm]
end Go.Proofs.YtphjhbppjakocaaDoor.Pl
