/- The pieces of a text: the program's split and the document's Pieces tell the same ones; conditions: a text of at most 65536 bytes. -/
import Derived.Test.YtphjhbppjakocaaGreatDoorPl2
import Derived.Test.YtphjhbppjakocaaGreatDoorPU16
import Derived.Test.YtphjhbppjakocaaGreatDoorPU5
namespace Go.Proofs.YtphjhbppjakocaaGreatDoor.Pl
open Go.RowKit Go.Proofs.YtphjhbppjakocaaGreatDoorW.PrintWords Go.Proofs.YtphjhbppjakocaaGreatDoor.PTag
set_option linter.unusedVariables false
def sepB (c : UInt8) : Bool := decide (c.toNat = 45) || decide (c.toNat = 95)
def pcs (s : ByteArray) : Nat → Nat → Nat → List S89
  | 0, i, b => [⟨s.extract b i, (b : Int)⟩]
  | d + 1, i, b => if sepB ((L s).getD i 0) = true then ⟨s.extract b i, (b : Int)⟩ :: pcs s d (i + 1) (i + 1) else pcs s d (i + 1) b
theorem getD_L {s : ByteArray} {i : Nat} (h : i < s.size) : bt s (i : Int) = (((L s).getD i 0).toNat : Int) := by
  rw [bt_L h, List.getD_eq_getElem?_getD, List.getElem?_eq_getElem (by rw [L_len]; exact h)]; rfl
theorem split_l (s : ByteArray) (hs : s.size ≤ 65536) : ∀ (d i b : Nat) (acc : List S89), s.size - i = d → i ≤ s.size → b ≤ i → acc.length ≤ i →
    Ev (fun k => tag_split.l0 k s acc (b : Int) (i : Int)) (acc ++ pcs s d i b) := by
  intro d
  induction d with
  | zero =>
    intro i b acc hd hi hb ha
    have : i = s.size := by omega
    subst this
    refine Ev.step (f := fun k => tag_split.j1 k s acc b s.size true) (fun k => ?_) (Ev.step (f := fun k => tag_split.l0 k s (acc ++ [⟨s.extract b s.size, (b : Int)⟩]) ((s.size + 1 : Nat) : Int) ((s.size + 1 : Nat) : Int)) (fun k => ?_) (Ev.step (f := fun _ => some (acc ++ [⟨s.extract b s.size, (b : Int)⟩])) (fun k => ?_) (Ev.now _)))
    · simp only [tag_split.l0]
      rw [if_pos (by omega), if_pos trivial]
    · simp only [tag_split.j1]
      rw [if_pos trivial, if_pos (by omega), if_pos (by omega), if_pos (by omega), if_pos (by omega), w64 (by omega)]
      rfl
    · simp only [tag_split.l0]
      rw [if_neg (by omega)]
  | succ d ih =>
    intro i b acc hd hi hb ha
    have hlt : i < s.size := by omega
    have hbt := getD_L hlt
    have hw : wrap64 ((i : Int) + 1) = ((i + 1 : Nat) : Int) := w64 (by omega)
    obtain ⟨c, hc⟩ : ∃ c, c = (L s).getD i 0 := ⟨_, rfl⟩
    rw [← hc] at hbt
    have hcut : ∀ x : Bool, (x = true → sepB c = true) → (x = false → sepB c = false) → Ev (fun k => tag_split.j1 k s acc (b : Int) (i : Int) x) (acc ++ pcs s (d + 1) i b) := by
      intro x h1 h2
      cases x with
      | true =>
        have hp : pcs s (d + 1) i b = ⟨s.extract b i, (b : Int)⟩ :: pcs s d (i + 1) (i + 1) := by
          show (if sepB ((L s).getD i 0) = true then _ else _) = _
          rw [← hc, if_pos (h1 rfl)]
        rw [hp]
        refine Ev.step (f := fun k => tag_split.l0 k s (acc ++ [⟨s.extract b i, (b : Int)⟩]) ((i + 1 : Nat) : Int) ((i + 1 : Nat) : Int)) (fun k => ?_) ?_
        · simp only [tag_split.j1]
          rw [if_pos trivial, if_pos (by omega), if_pos (by omega), if_pos (by omega), if_pos (by omega), hw]
          rfl
        · have := ih (i + 1) (i + 1) (acc ++ [⟨s.extract b i, (b : Int)⟩]) (by omega) (by omega) (by omega) (by simp; omega)
          rw [List.append_assoc] at this
          exact this
      | false =>
        have hp : pcs s (d + 1) i b = pcs s d (i + 1) b := by
          show (if sepB ((L s).getD i 0) = true then _ else _) = _
          rw [← hc, if_neg (by rw [h2 rfl]; simp)]
        rw [hp]
        refine Ev.step (f := fun k => tag_split.l0 k s acc (b : Int) ((i + 1 : Nat) : Int)) (fun k => ?_) (ih (i + 1) b acc (by omega) (by omega) (by omega) (by omega))
        simp only [tag_split.j1]
        rw [if_neg (by simp), hw]
    by_cases h45 : c.toNat = 45
    · refine Ev.step (f := fun k => tag_split.j1 k s acc b i true) (fun k => ?_) (hcut true (fun _ => by simp [sepB, h45]) (fun h => by cases h))
      simp only [tag_split.l0]
      rw [if_pos (by omega), if_neg (by omega), if_pos (by omega), if_pos (by omega), hbt, if_pos (by omega)]
    · refine Ev.step (f := fun k => tag_split.j1 k s acc b i (decide (c.toNat = 95))) (fun k => ?_) (hcut _ (fun h => by simp only [decide_eq_true_eq] at h; simp [sepB, h]) (fun h => by simp only [decide_eq_false_iff_not] at h; simp [sepB, h, h45]))
      simp only [tag_split.l0]
      rw [if_pos (by omega), if_neg (by omega), if_pos (by omega), if_pos (by omega), hbt, if_neg (by omega)]
      have : ((c.toNat : Int) == 95) = decide (c.toNat = 95) := by rw [Bool.eq_iff_iff]; simp; omega
      rw [this]
def pieces (s : ByteArray) : List S89 := pcs s s.size 0 0
theorem split_f (s : ByteArray) (hs : s.size ≤ 65536) : Ev (fun k => tag_split.f k s) (pieces s) := by
  have := split_l s hs s.size 0 0 [] (by omega) (by omega) (by omega) (by simp)
  unfold tag_split.f pieces
  simpa using this
def txts (ps : List S89) : List ByteArray := ps.map (·.f0)
def plcs (ps : List S89) : List Int := ps.map (·.f1)
abbrev SEP : ByteArray := ⟨#[45, 95]⟩
theorem sep0 : bt SEP 0 = 45 := by decide
theorem sep1 : bt SEP 1 = 95 := by decide
theorem pieces_j2 (s : ByteArray) (hs : s.size ≤ 65536) (xs : List ByteArray) (ys : List Int) (i b : Nat) (x : Bool) (hx : xs.length ≤ i) (hy : ys.length ≤ i) (hb : b ≤ i) (hi : i ≤ s.size) (n : Int) :
    (fun k => idiomref07_Pieces.j2 (k + 1) s SEP xs ys (b : Int) (i : Int) x n false) = fun k => if x = true then idiomref07_Pieces.l0 k s SEP (xs ++ [s.extract b i]) (ys ++ [(b : Int)]) ((i + 1 : Nat) : Int) ((i + 1 : Nat) : Int) else idiomref07_Pieces.l0 k s SEP xs ys (b : Int) ((i + 1 : Nat) : Int) := by
  funext k
  simp only [idiomref07_Pieces.j2]
  rw [if_neg (by simp), w64 (by omega)]
  cases x with
  | true =>
    rw [if_pos rfl, if_pos rfl, if_pos (by omega), if_pos (by omega), if_pos (by omega), if_pos (by omega), if_pos (by omega)]
    rfl
  | false => rw [if_neg (by simp), if_neg (by simp)]; rfl
theorem pieces_in (s : ByteArray) (hs : s.size ≤ 65536) (xs : List ByteArray) (ys : List Int) (i b : Nat) (c : UInt8) (hc : c = (L s).getD i 0) (hlt : i < s.size) (hx : xs.length ≤ i) (hy : ys.length ≤ i) (hb : b ≤ i) {r : List ByteArray × List Int}
    (h : Ev (fun k => if sepB c = true then idiomref07_Pieces.l0 k s SEP (xs ++ [s.extract b i]) (ys ++ [(b : Int)]) ((i + 1 : Nat) : Int) ((i + 1 : Nat) : Int) else idiomref07_Pieces.l0 k s SEP xs ys (b : Int) ((i + 1 : Nat) : Int)) r) :
    Ev (fun k => idiomref07_Pieces.l1 k s SEP xs ys (b : Int) (i : Int) false 0) r := by
  have hbt : bt s (i : Int) = (c.toNat : Int) := by rw [hc]; exact getD_L hlt
  have hz : ((SEP.size : Nat) : Int) = 2 := rfl
  have fin : ∀ (x : Bool) (n : Int), x = sepB c → Ev (fun k => idiomref07_Pieces.j2 k s SEP xs ys (b : Int) (i : Int) x n false) r := by
    intro x n hxs
    refine Ev.step (f := fun k => if x = true then idiomref07_Pieces.l0 k s SEP (xs ++ [s.extract b i]) (ys ++ [(b : Int)]) ((i + 1 : Nat) : Int) ((i + 1 : Nat) : Int) else idiomref07_Pieces.l0 k s SEP xs ys (b : Int) ((i + 1 : Nat) : Int)) (fun k => congrFun (pieces_j2 s hs xs ys i b x hx hy hb (by omega) n) k) ?_
    rw [hxs]; exact h
  refine Ev.step (f := fun k => idiomref07_Pieces.j2 k s SEP xs ys (b : Int) (i : Int) false 0 true) (fun k => ?_) (Ev.step (f := fun k => idiomref07_Pieces.l1 k s SEP xs ys (b : Int) (i : Int) (decide (c.toNat = 45)) 1) (fun k => ?_) ?_)
  · simp only [idiomref07_Pieces.l1]
    rw [hz, if_pos (by omega)]; rfl
  · simp only [idiomref07_Pieces.j2]
    rw [if_pos trivial, if_pos (by omega), if_pos (by omega), if_pos (by omega), hz, if_pos (by omega), hbt, sep0]
    have : ((c.toNat : Int) == 45) = decide (c.toNat = 45) := by rw [Bool.eq_iff_iff]; simp; omega
    rw [this, show wrap64 (0 + 1) = 1 from w64 (by omega)]
  · by_cases h45 : c.toNat = 45
    · refine Ev.step (f := fun k => idiomref07_Pieces.j2 k s SEP xs ys (b : Int) (i : Int) true 1 false) (fun k => ?_) (fin true 1 (by simp [sepB, h45]))
      simp only [idiomref07_Pieces.l1]
      rw [hz, if_pos (by omega), decide_eq_true h45]; rfl
    · refine Ev.step (f := fun k => idiomref07_Pieces.j2 k s SEP xs ys (b : Int) (i : Int) false 1 true) (fun k => ?_) (Ev.step (f := fun k => idiomref07_Pieces.l1 k s SEP xs ys (b : Int) (i : Int) (decide (c.toNat = 95)) 2) (fun k => ?_) (Ev.step (f := fun k => idiomref07_Pieces.j2 k s SEP xs ys (b : Int) (i : Int) (decide (c.toNat = 95)) 2 false) (fun k => ?_) (fin _ 2 (by simp [sepB, h45]))))
      · simp only [idiomref07_Pieces.l1]
        rw [hz, if_pos (by omega), decide_eq_false h45]; rfl
      · simp only [idiomref07_Pieces.j2]
        rw [if_pos trivial, if_pos (by omega), if_pos (by omega), if_pos (by omega), hz, if_pos (by omega), hbt, sep1]
        have : ((c.toNat : Int) == 95) = decide (c.toNat = 95) := by rw [Bool.eq_iff_iff]; simp; omega
        rw [this, show wrap64 (1 + 1) = 2 from w64 (by omega)]
      · simp only [idiomref07_Pieces.l1]
        rw [hz, if_neg (by omega)]
theorem pieces_l (s : ByteArray) (hs : s.size ≤ 65536) : ∀ (d i b : Nat) (xs : List ByteArray) (ys : List Int), s.size - i = d → i ≤ s.size → b ≤ i → xs.length ≤ i → ys.length ≤ i →
    Ev (fun k => idiomref07_Pieces.l0 k s SEP xs ys (b : Int) (i : Int)) (xs ++ txts (pcs s d i b), ys ++ plcs (pcs s d i b)) := by
  intro d
  induction d with
  | zero =>
    intro i b xs ys hd hi hb hx hy
    have : i = s.size := by omega
    subst this
    have hz : ((SEP.size : Nat) : Int) = 2 := rfl
    refine Ev.step (f := fun k => idiomref07_Pieces.l1 k s SEP xs ys (b : Int) (s.size : Int) true 0) (fun k => ?_) (Ev.step (f := fun k => idiomref07_Pieces.j2 k s SEP xs ys (b : Int) (s.size : Int) true 0 false) (fun k => ?_) (Ev.step (f := fun k => idiomref07_Pieces.l0 k s SEP (xs ++ [s.extract b s.size]) (ys ++ [(b : Int)]) ((s.size + 1 : Nat) : Int) ((s.size + 1 : Nat) : Int)) (fun k => ?_) (Ev.step (f := fun _ => some (xs ++ [s.extract b s.size], ys ++ [(b : Int)])) (fun k => ?_) (Ev.now _))))
    · simp only [idiomref07_Pieces.l0]
      rw [if_pos (by omega)]; simp
    · simp only [idiomref07_Pieces.l1]
      rw [hz, if_pos (by omega)]; rfl
    · have := congrFun (pieces_j2 s hs xs ys s.size b true hx hy hb (by omega) 0) k
      rw [if_pos rfl] at this
      exact this
    · simp only [idiomref07_Pieces.l0]
      rw [if_neg (by omega)]
  | succ d ih =>
    intro i b xs ys hd hi hb hx hy
    have hlt : i < s.size := by omega
    refine Ev.step (f := fun k => idiomref07_Pieces.l1 k s SEP xs ys (b : Int) (i : Int) false 0) (fun k => ?_) (pieces_in s hs xs ys i b _ rfl hlt hx hy hb ?_)
    · simp only [idiomref07_Pieces.l0]
      have : ((i : Int) == (s.size : Int)) = false := by simp; omega
      rw [if_pos (by omega), this]
    · show Ev _ (xs ++ txts (if sepB ((L s).getD i 0) = true then _ else _), ys ++ plcs (if sepB ((L s).getD i 0) = true then _ else _))
      by_cases hc : sepB ((L s).getD i 0) = true
      · simp only [if_pos hc]
        have := ih (i + 1) (i + 1) (xs ++ [s.extract b i]) (ys ++ [(b : Int)]) (by omega) (by omega) (by omega) (by simp; omega) (by simp; omega)
        rw [List.append_assoc, List.append_assoc] at this
        exact this
      · simp only [if_neg hc]
        exact ih (i + 1) b xs ys (by omega) (by omega) (by omega) (by omega) (by omega)
theorem pieces_f (s : ByteArray) (hs : s.size ≤ 65536) : Ev (fun k => idiomref07_Pieces.f k s SEP) (txts (pieces s), plcs (pieces s)) := by
  have := pieces_l s hs s.size 0 0 [] [] (by omega) (by omega) (by omega) (by simp) (by simp)
  unfold idiomref07_Pieces.f pieces
  simpa using this
theorem pcs_small (s : ByteArray) : ∀ (d i b : Nat), ∀ p ∈ pcs s d i b, p.f0.size ≤ s.size := by
  intro d
  induction d with
  | zero =>
    intro i b p hp
    obtain rfl : p = _ := by simpa [pcs] using hp
    show (s.extract b i).size ≤ s.size
    rw [ext_size]; omega
  | succ d ih =>
    intro i b p hp
    unfold pcs at hp
    by_cases hc : sepB ((L s).getD i 0) = true
    · rw [if_pos hc] at hp
      rcases List.mem_cons.1 hp with rfl | hp
      · show (s.extract b i).size ≤ s.size
        rw [ext_size]; omega
      · exact ih _ _ p hp
    · rw [if_neg hc] at hp; exact ih _ _ p hp
theorem pcs_head (s : ByteArray) : ∀ (d i b : Nat), ∃ p r, pcs s d i b = p :: r ∧ p.f1 = (b : Int) := by
  intro d
  induction d with
  | zero => intro i b; exact ⟨_, _, rfl, rfl⟩
  | succ d ih =>
    intro i b
    unfold pcs
    by_cases hc : sepB ((L s).getD i 0) = true
    · rw [if_pos hc]; exact ⟨_, _, rfl, rfl⟩
    · rw [if_neg hc]; exact ih _ _
theorem pcs_len (s : ByteArray) : ∀ (d i b : Nat), (pcs s d i b).length ≤ d + 1 := by
  intro d
  induction d with
  | zero => intro i b; simp [pcs]
  | succ d ih =>
    intro i b
    unfold pcs
    by_cases hc : sepB ((L s).getD i 0) = true
    · rw [if_pos hc, List.length_cons]; have := ih (i + 1) (i + 1); omega
    · rw [if_neg hc]; have := ih (i + 1) b; omega
end Go.Proofs.YtphjhbppjakocaaGreatDoor.Pl
