/- The law TagParses: the program's Parse and the document's tell the same tag, or the same place and reason; conditions: none. -/
import Derived.Test.YtphjhbppjakocaaGreatDoorPl9
import Derived.Test.YtphjhbppjakocaaGreatDoorPPars12
import Derived.Test.YtphjhbppjakocaaGreatDoorPPars13
namespace Go.Proofs.YtphjhbppjakocaaGreatDoor.Pl
open Go.RowKit Go.Proofs.YtphjhbppjakocaaGreatDoorW.PrintWords Go.Proofs.YtphjhbppjakocaaGreatDoor.PTag
set_option linter.unusedVariables false
theorem varsP_stop : ∀ (ps : List Pc) (vs : List ByteArray), (varsP ps vs).1 ≠ 0 → ∃ p r, (varsP ps vs).2.1 = p :: r
  | [], vs, h => absurd rfl h
  | p :: ps, vs, h => by
    simp only [varsP] at h ⊢
    split at h
    · rename_i h1
      rw [if_pos h1]
      split at h
      · rename_i h2; rw [if_pos h2]; exact ⟨_, _, rfl⟩
      · rename_i h2
        rw [if_neg h2]
        split at h
        · rename_i h3; rw [if_pos h3]; exact ⟨_, _, rfl⟩
        · rename_i h3; rw [if_neg h3]; exact varsP_stop ps _ h
    · exact absurd rfl h
theorem keysP_stop : ∀ (n : Nat) (ps : List Pc) (ks : List Ky), (keysP n ps ks).1 ≠ 0 → ∃ p r, (keysP n ps ks).2.1 = p :: r
  | 0, ps, ks, h => absurd rfl h
  | n + 1, [], ks, h => absurd rfl h
  | n + 1, p :: ps, ks, h => by
    simp only [keysP] at h ⊢
    split at h
    · rename_i h1
      rw [if_pos h1]
      split at h
      · rename_i h2; rw [if_pos h2]; exact ⟨_, _, rfl⟩
      · rename_i h2
        rw [if_neg h2]
        split at h
        · rename_i h3; rw [if_pos h3]; exact ⟨_, _, rfl⟩
        · rename_i h3; rw [if_neg h3]; exact keysP_stop n _ _ h
    · exact absurd rfl h
def refOut (q : PRes) : PRes := if q.2.2.2.2.2.2 = 0 then (q.1, q.2.1, q.2.2.1, q.2.2.2.1, q.2.2.2.2.1, 0, 0) else (E, E, E, [], [], q.2.2.2.2.2.1, q.2.2.2.2.2.2)
theorem out_end (en : Int) (rest : List Pc) (l s r : ByteArray) (vs : List ByteArray) : refOut (refEnd en rest l s r (isrt ltT vs)) = parseRes (readUP en rest l s r vs) := by
  cases rest with
  | nil =>
    show refOut (l, s, r, isrt ltT vs, [], 0, 0) = (l, s, r, sortTexts vs, sortKeys [], 0, 0)
    rw [isrt_texts, ← isrt_keys [] List.Pairwise.nil]; rfl
  | cons p pt =>
    simp only [refEnd, readUP]
    by_cases hu : (low p.f0).toList = [117]
    · rw [if_pos hu, if_pos hu]
      cases pt with
      | nil => rfl
      | cons q qs =>
        simp only
        obtain ⟨K, hK⟩ : ∃ K, K = keysP ((q :: qs).length + 1) (q :: qs) [] := ⟨_, rfl⟩
        have hn1 : Nm1 K.2.2 := by rw [hK]; exact keysP_nm1 _ _ _ List.Pairwise.nil
        have hst := keysP_stop ((q :: qs).length + 1) (q :: qs) []
        have hno := keysP_none ((q :: qs).length) (q :: qs)
        rw [← hK] at hst hno ⊢
        obtain ⟨c, rest, ks⟩ := K
        simp only at hn1 hst hno ⊢
        by_cases h0 : c = 0
        · rw [if_pos h0]
          subst h0
          by_cases h1 : ks.length = 0
          · rw [if_pos h1]
            have := hno rfl h1
            subst this
            rfl
          · rw [if_neg h1]
            cases rest with
            | nil =>
              show (l, s, r, isrt ltT vs, isrt ltK ks, (0 : Int), (0 : Int)) = (l, s, r, sortTexts vs, sortKeys ks, 0, 0)
              rw [isrt_texts, isrt_keys ks hn1]
            | cons a b => rfl
        · rw [if_neg h0]
          obtain ⟨a, b, rfl⟩ := hst h0
          unfold refOut kplc
          simp only
          rw [if_neg h0]
          simp only
          rw [if_neg h0]
          rfl
    · rw [if_neg hu, if_neg hu]; rfl
theorem out_read (en : Int) (ps : List Pc) (p : Pc) (pt : List Pc) (hp : ps = p :: pt) (h0 : p.f1 = 0) : refOut (refRead en ps) = parseRes (readP ps en) := by
  unfold refRead readP
  by_cases hb : (headP ps).1 = true
  · rw [if_pos hb, if_pos hb]
    unfold refVars
    have hst := varsP_stop (headP ps).2.1 []
    by_cases hc : (varsP (headP ps).2.1 []).1 = 0
    · rw [if_pos hc, if_pos hc]; exact out_end ..
    · rw [if_neg hc, if_neg hc]
      obtain ⟨a, b, e⟩ := hst hc
      rw [e]
      unfold refOut
      simp only
      rw [if_neg hc]
      rfl
  · rw [if_neg hb, if_neg hb]
    have : (headP ps).2.1 = ps := by
      unfold headP at hb ⊢
      split at hb
      · exact absurd (headSP_l _ _).1 hb
      · rename_i h; rw [if_neg h]
    rw [this, hp]
    show (E, E, E, [], [], (0 : Int), (70 : Int)) = (E, E, E, [], [], p.f1, 70)
    rw [h0]
theorem rparse_f (s : ByteArray) : Ev (fun k => idiomref07_Parse.f k s) (parseP s) := by
  unfold idiomref07_Parse.f parseP
  by_cases h1 : s.size > 65536
  · simp only [if_pos h1, if_pos (show (s.size : Int) > 65536 by omega)]; exact Ev.now _
  · simp only [if_neg h1, if_neg (show ¬ (s.size : Int) > 65536 by omega)]
    rw [small_f _ (by omega)]
    simp only [Option.bind_some]
    by_cases h2 : (low s).toList = [114, 111, 111, 116]
    · simp only [if_pos h2]; exact Ev.now _
    · simp only [if_neg h2]
      have hp := pieces_sm s (by omega)
      obtain ⟨p, pt, e1, e2⟩ := pcs_head s s.size 0 0
      have e1' : pieces s = p :: pt := e1
      refine Ev.bind (pieces_f s (by omega)) ?_
      refine Ev.bind (rread_f (pieces s) hp.1 hp.2 _ (by rw [e1']; simp)) ?_
      rw [← out_read (s.size : Int) (pieces s) p pt e1' (by rw [e2]; rfl)]
      unfold refOut
      by_cases hz : (refRead (s.size : Int) (pieces s)).2.2.2.2.2.2 = 0
      · rw [if_pos hz, if_pos hz]; exact Ev.now _
      · rw [if_neg hz, if_neg hz]; exact Ev.now _
theorem same_l1 (l s r : ByteArray) (V : List ByteArray) (K : List Ky) (hK : K.length ≤ 64) : ∀ (d i : Nat), K.length - i = d → i ≤ K.length → Ev (fun k => idiomref07_Same.l1 k (i : Int) l s r V K l s r V K) true := by
  intro d
  induction d with
  | zero =>
    intro i hd hi
    refine Ev.step (f := fun _ => some true) (fun k => ?_) (Ev.now _)
    simp only [idiomref07_Same.l1]
    rw [if_neg (by omega)]
  | succ d ih =>
    intro i hd hi
    refine Ev.step (fun k => ?_) (ih (i + 1) (by omega) (by omega))
    simp only [idiomref07_Same.l1]
    rw [if_pos (by omega), if_pos (by omega), if_pos (by omega), if_neg (by simp), w64 (by omega)]
    rfl
theorem same_l0 (l s r : ByteArray) (V : List ByteArray) (K : List Ky) (hV : V.length ≤ 64) (hK : K.length ≤ 64) : ∀ (d i : Nat), V.length - i = d → i ≤ V.length → Ev (fun k => idiomref07_Same.l0 k (i : Int) l s r V K l s r V K) true := by
  intro d
  induction d with
  | zero =>
    intro i hd hi
    refine Ev.step (fun k => ?_) (same_l1 l s r V K hK K.length 0 (by omega) (by omega))
    simp only [idiomref07_Same.l0]
    rw [if_neg (by omega)]; rfl
  | succ d ih =>
    intro i hd hi
    refine Ev.step (fun k => ?_) (ih (i + 1) (by omega) (by omega))
    simp only [idiomref07_Same.l0]
    rw [if_pos (by omega), if_pos (by omega), if_pos (by omega), if_pos trivial, w64 (by omega)]
    rfl
theorem same_f (l s r : ByteArray) (V : List ByteArray) (K : List Ky) (hV : V.length ≤ 64) (hK : K.length ≤ 64) : Ev (fun k => idiomref07_Same.f k l s r V K l s r V K) true := by
  unfold idiomref07_Same.f
  simp only [if_true]
  refine Ev.step (fun k => ?_) (same_l0 l s r V K hV hK V.length 0 (by omega) (by omega))
  simp only [idiomref07_Same.j0]
  rw [if_neg (by simp)]; rfl
theorem parseP_len (s : ByteArray) : (parseP s).2.2.2.1.length ≤ 64 ∧ (parseP s).2.2.2.2.1.length ≤ 64 := by
  unfold parseP
  split
  · exact ⟨by simp, by simp⟩
  · split
    · exact ⟨by simp, by simp⟩
    · have := readP_len (pieces s) (s.size : Int)
      unfold parseRes
      split
      · exact ⟨by simp, by simp⟩
      · rename_i t ht
        have := this t ht
        rw [sortKeys_len]
        simp only [← isrt_texts, isrt_len]
        exact this
theorem awake_f : Ev (fun k => idiomlaw07_awake.f k) true := Ev.of (fun k => idiomlaw07_awake.mono k) (k := 20) (by kernel_rfl)
end Go.Proofs.YtphjhbppjakocaaGreatDoor.Pl
