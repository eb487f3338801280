/- The pieces of a text: the program's split and the document's Pieces tell the same ones; conditions: a text of at most 65536 bytes. -/
import Derived.Test.YtphjhbppjakocaaDoorPl2
import Derived.Test.YtphjhbppjakocaaDoorPCase3
namespace Go.Proofs.YtphjhbppjakocaaDoor.Pl
open Go.RowKit Go.Proofs.YtphjhbppjakocaaDoorW.PrintWords Go.Proofs.YtphjhbppjakocaaDoor.PTag
set_option linter.unusedVariables false
def sepB (c : UInt8) : Bool := decide (c.toNat = 45) || decide (c.toNat = 95)
/-- The pieces from i on, the first one begun at b; d bytes are left. -/
def pcs (s : ByteArray) : Nat → Nat → Nat → List S53
  | 0, i, b => [⟨s.extract b i, (b : Int)⟩]
  | d + 1, i, b => if sepB ((L s).getD i 0) = true then ⟨s.extract b i, (b : Int)⟩ :: pcs s d (i + 1) (i + 1) else pcs s d (i + 1) b
theorem getD_L {s : ByteArray} {i : Nat} (h : i < s.size) : bt s (i : Int) = (((L s).getD i 0).toNat : Int) := by
  rw [bt_L h, List.getD_eq_getElem?_getD, List.getElem?_eq_getElem (by rw [L_len]; exact h)]; rfl
theorem split_l (s : ByteArray) (hs : s.size ≤ 65536) : ∀ (d i b : Nat) (acc : List S53), s.size - i = d → i ≤ s.size → b ≤ i → acc.length ≤ i →
    Ev (fun k => tag_split.l0 k s acc (b : Int) (i : Int)) (acc ++ pcs s d i b) := by
  intro d
  induction d with
  | zero =>
    intro i b acc hd hi hb ha
    have : i = s.size := by omega
    subst this
    refine Ev.step (f := fun k => tag_split.j1 k s acc b s.size true) (fun k => ?_) (Ev.step (f := fun k => tag_split.l0 k s (acc ++ [⟨s.extract b s.size, (b : Int)⟩]) ((s.size + 1 : Nat) : Int) ((s.size + 1 : Nat) : Int)) (fun k => ?_) (Ev.step (f := fun _ => some (acc ++ [⟨s.extract b s.size, (b : Int)⟩])) (fun k => ?_) (Ev.now _)))
    · simp only [tag_split.l0]
      rw [if_pos (by omega), if_pos trivial]
    · simp only [tag_split.j1]
      rw [if_pos trivial, if_pos (by omega), if_pos (by omega), if_pos (by omega), if_pos (by omega), w64 (by omega)]
      rfl
    · simp only [tag_split.l0]
      rw [if_neg (by omega)]
  | succ d ih =>
    intro i b acc hd hi hb ha
    have hlt : i < s.size := by omega
    have hbt := getD_L hlt
    have hw : wrap64 ((i : Int) + 1) = ((i + 1 : Nat) : Int) := w64 (by omega)
    obtain ⟨c, hc⟩ : ∃ c, c = (L s).getD i 0 := ⟨_, rfl⟩
    rw [← hc] at hbt
    have hcut : ∀ x : Bool, (x = true → sepB c = true) → (x = false → sepB c = false) → Ev (fun k => tag_split.j1 k s acc (b : Int) (i : Int) x) (acc ++ pcs s (d + 1) i b) := by
      intro x h1 h2
      cases x with
      | true =>
        have hp : pcs s (d + 1) i b = ⟨s.extract b i, (b : Int)⟩ :: pcs s d (i + 1) (i + 1) := by
          show (if sepB ((L s).getD i 0) = true then _ else _) = _
          rw [← hc, if_pos (h1 rfl)]
        rw [hp]
        refine Ev.step (f := fun k => tag_split.l0 k s (acc ++ [⟨s.extract b i, (b : Int)⟩]) ((i + 1 : Nat) : Int) ((i + 1 : Nat) : Int)) (fun k => ?_) ?_
        · simp only [tag_split.j1]
          rw [if_pos trivial, if_pos (by omega), if_pos (by omega), if_pos (by omega), if_pos (by omega), hw]
          rfl
        · have := ih (i + 1) (i + 1) (acc ++ [⟨s.extract b i, (b : Int)⟩]) (by omega) (by omega) (by omega) (by simp; omega)
          rw [List.append_assoc] at this
          exact this
      | false =>
        have hp : pcs s (d + 1) i b = pcs s d (i + 1) b := by
          show (if sepB ((L s).getD i 0) = true then _ else _) = _
          rw [← hc, if_neg (by rw [h2 rfl]; simp)]
        rw [hp]
        refine Ev.step (f := fun k => tag_split.l0 k s acc (b : Int) ((i + 1 : Nat) : Int)) (fun k => ?_) (ih (i + 1) b acc (by omega) (by omega) (by omega) (by omega))
        simp only [tag_split.j1]
        rw [if_neg (by simp), hw]
    by_cases h45 : c.toNat = 45
    · refine Ev.step (f := fun k => tag_split.j1 k s acc b i true) (fun k => ?_) (hcut true (fun _ => by simp [sepB, h45]) (fun h => by cases h))
      simp only [tag_split.l0]
      rw [if_pos (by omega), if_neg (by omega), if_pos (by omega), if_pos (by omega), hbt, if_pos (by omega)]
    · refine Ev.step (f := fun k => tag_split.j1 k s acc b i (decide (c.toNat = 95))) (fun k => ?_) (hcut _ (fun h => by simp only [decide_eq_true_eq] at h; simp [sepB, h]) (fun h => by simp only [decide_eq_false_iff_not] at h; simp [sepB, h, h45]))
      simp only [tag_split.l0]
      rw [if_pos (by omega), if_neg (by omega), if_pos (by omega), if_pos (by omega), hbt, if_neg (by omega)]
      have : ((c.toNat : Int) == 95) = decide (c.toNat = 95) := by rw [Bool.eq_iff_iff]; simp; omega
      rw [this]
/-- All pieces. -/
def pieces (s : ByteArray) : List S53 := pcs s s.size 0 0
theorem split_f (s : ByteArray) (hs : s.size ≤ 65536) : Ev (fun k => tag_split.f k s) (pieces s) := by
  have := split_l s hs s.size 0 0 [] (by omega) (by omega) (by omega) (by simp)
  unfold tag_split.f pieces
  simpa using this
/-- The texts of pieces, their places. -/
def txts (ps : List S53) : List ByteArray := ps.map (·.f0)
def plcs (ps : List S53) : List Int := ps.map (·.f1)
abbrev SEP : ByteArray := ⟨#[45, 95]⟩
theorem sep0 : bt SEP 0 = 45 := by decide
theorem sep1 : bt SEP 1 = 95 := by decide
/-- Each piece is no longer than the text; there is one, and it begins at 0. -/
theorem pcs_small (s : ByteArray) : ∀ (d i b : Nat), ∀ p ∈ pcs s d i b, p.f0.size ≤ s.size := by
  intro d
  induction d with
  | zero =>
    intro i b p hp
    obtain rfl : p = _ := by simpa [pcs] using hp
    show (s.extract b i).size ≤ s.size
    rw [ext_size]; omega
  | succ d ih =>
    intro i b p hp
    unfold pcs at hp
    by_cases hc : sepB ((L s).getD i 0) = true
    · rw [if_pos hc] at hp
      rcases List.mem_cons.1 hp with rfl | hp
      · show (s.extract b i).size ≤ s.size
        rw [ext_size]; omega
      · exact ih _ _ p hp
    · rw [if_neg hc] at hp; exact ih _ _ p hp
theorem pcs_head (s : ByteArray) : ∀ (d i b : Nat), ∃ p r, pcs s d i b = p :: r ∧ p.f1 = (b : Int) := by
  intro d
  induction d with
  | zero => intro i b; exact ⟨_, _, rfl, rfl⟩
  | succ d ih =>
    intro i b
    unfold pcs
    by_cases hc : sepB ((L s).getD i 0) = true
    · rw [if_pos hc]; exact ⟨_, _, rfl, rfl⟩
    · rw [if_neg hc]; exact ih _ _
theorem pcs_len (s : ByteArray) : ∀ (d i b : Nat), (pcs s d i b).length ≤ d + 1 := by
  intro d
  induction d with
  | zero => intro i b; simp [pcs]
  | succ d ih =>
    intro i b
    unfold pcs
    by_cases hc : sepB ((L s).getD i 0) = true
    · rw [if_pos hc, List.length_cons]; have := ih (i + 1) (i + 1); omega
    · rw [if_neg hc]; have := ih (i + 1) b; omega
end Go.Proofs.YtphjhbppjakocaaDoor.Pl
