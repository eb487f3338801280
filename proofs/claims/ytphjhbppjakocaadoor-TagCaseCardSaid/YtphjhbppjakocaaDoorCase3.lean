/- The law TagCase tells true of every text and all bits; conditions: the text is no longer than Go lets a text be. -/
import Derived.Test.YtphjhbppjakocaaDoorCase2
import Derived.Test.YtphjhbppjakocaaDoorPl6
import Derived.Test.YtphjhbppjakocaaDoorPCase14
import Derived.Test.YtphjhbppjakocaaDoorPCase10
import Derived.Test.YtphjhbppjakocaaDoorPCase14
namespace Go.Proofs.YtphjhbppjakocaaDoor.Pl
open Go.RowKit Go.Proofs.YtphjhbppjakocaaDoorW.PrintWords Go.Proofs.YtphjhbppjakocaaDoor.PTag
set_option linter.unusedVariables false
theorem same_l1 (l s r : ByteArray) (V : List ByteArray) (K : List Ky) (hK : K.length ≤ 64) : ∀ (d i : Nat), K.length - i = d → i ≤ K.length → Ev (fun k => idiomref07_Same.l1 k (i : Int) l s r V K l s r V K) true := by
  intro d
  induction d with
  | zero =>
    intro i hd hi
    refine Ev.step (f := fun _ => some true) (fun k => ?_) (Ev.now _)
    simp only [idiomref07_Same.l1]
    rw [if_neg (by omega)]
  | succ d ih =>
    intro i hd hi
    refine Ev.step (fun k => ?_) (ih (i + 1) (by omega) (by omega))
    simp only [idiomref07_Same.l1]
    rw [if_pos (by omega), if_pos (by omega), if_pos (by omega), if_neg (by simp), w64 (by omega)]
    rfl
theorem same_l0 (l s r : ByteArray) (V : List ByteArray) (K : List Ky) (hV : V.length ≤ 64) (hK : K.length ≤ 64) : ∀ (d i : Nat), V.length - i = d → i ≤ V.length → Ev (fun k => idiomref07_Same.l0 k (i : Int) l s r V K l s r V K) true := by
  intro d
  induction d with
  | zero =>
    intro i hd hi
    refine Ev.step (fun k => ?_) (same_l1 l s r V K hK K.length 0 (by omega) (by omega))
    simp only [idiomref07_Same.l0]
    rw [if_neg (by omega)]; rfl
  | succ d ih =>
    intro i hd hi
    refine Ev.step (fun k => ?_) (ih (i + 1) (by omega) (by omega))
    simp only [idiomref07_Same.l0]
    rw [if_pos (by omega), if_pos (by omega), if_pos (by omega), if_pos trivial, w64 (by omega)]
    rfl
theorem same_f (l s r : ByteArray) (V : List ByteArray) (K : List Ky) (hV : V.length ≤ 64) (hK : K.length ≤ 64) : Ev (fun k => idiomref07_Same.f k l s r V K l s r V K) true := by
  unfold idiomref07_Same.f
  simp only [if_true]
  refine Ev.step (fun k => ?_) (same_l0 l s r V K hV hK V.length 0 (by omega) (by omega))
  simp only [idiomref07_Same.j0]
  rw [if_neg (by simp)]; rfl
theorem parseP_len (s : ByteArray) : (parseP s).2.2.2.1.length ≤ 64 ∧ (parseP s).2.2.2.2.1.length ≤ 64 := by
  unfold parseP
  split
  · exact ⟨by simp, by simp⟩
  · split
    · exact ⟨by simp, by simp⟩
    · have := readP_len (pieces s) (s.size : Int)
      unfold parseRes
      split
      · exact ⟨by simp, by simp⟩
      · rename_i t ht
        have := this t ht
        rw [sortKeys_len]
        simp only [← isrt_texts, isrt_len]
        exact this
theorem awake_f : Ev (fun k => idiomlaw07_awake.f k) true := Ev.of (fun k => idiomlaw07_awake.mono k) (k := 20) (by kernel_rfl)
theorem TagCase (s : ByteArray) (n : Int) (hs : s.size ≤ 9223372036854775807) : Ev (fun k => idiomlaw07_TagCase.f k s n) true := by
  obtain ⟨t, h1, h2⟩ := turned_f s n hs
  have hp : parseP t = parseP s := parseP_canon h2
  have hl := parseP_len s
  unfold idiomlaw07_TagCase.f
  refine Ev.bind (parse_f s) ?_
  rw [h1]
  simp only [Option.bind_some]
  refine Ev.bind (parse_f t) ?_
  simp only [hp, if_true]
  refine Ev.bind (same_f _ _ _ _ _ hl.1 hl.2) ?_
  simp only [if_true]
  exact Ev.bind awake_f (Ev.now _)
end Go.Proofs.YtphjhbppjakocaaDoor.Pl
