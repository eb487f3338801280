/- Keys' values: the program's valued and the document's value tell the same; conditions: a value of at most 1048576 bytes. -/
import Derived.Test.YtphjhbppjakocaaGreatDoorPl2
import Derived.Test.YtphjhbppjakocaaGreatDoorPU12
import Derived.Test.YtphjhbppjakocaaGreatDoorPU6
import Derived.Lib.SplitLaws
import Derived.Lib.IndexBytes
namespace Go.Proofs.YtphjhbppjakocaaGreatDoor.Pl
open Go.RowKit Go.Proofs.YtphjhbppjakocaaGreatDoorW.PrintWords Go.Proofs.YtphjhbppjakocaaGreatDoor.PTag
set_option linter.unusedVariables false
def cutL (c : UInt8) : Bs → List Bs
  | [] => [[]]
  | x :: l => if x = c then [] :: cutL c l else (match cutL c l with | [] => [[x]] | h :: t => (x :: h) :: t)
theorem cutL_ne (c : UInt8) : ∀ l : Bs, ∃ h t, cutL c l = h :: t
  | [] => ⟨_, _, rfl⟩
  | x :: l => by
    obtain ⟨h, t, e⟩ := cutL_ne c l
    unfold cutL
    rw [e]
    split
    · exact ⟨_, _, rfl⟩
    · exact ⟨_, _, rfl⟩
theorem splitK_cut (c : UInt8) : ∀ l : Bs, Lib.splitK [c] 0 (l.count c) l = cutL c l
  | [] => rfl
  | x :: l => by
    have ih := splitK_cut c l
    by_cases hx : x = c
    · subst hx
      have hi : Lib.index (x :: l) [x] = 0 := by rw [Lib.index_one]; simp [Lib.indexByte]
      rw [List.count_cons_self]
      unfold Lib.splitK cutL
      rw [hi, if_neg (by decide), if_pos rfl, ← ih]
      simp
    · rw [List.count_cons_of_ne (fun e => hx e)]
      unfold cutL
      rw [if_neg hx, ← ih]
      cases hk : l.count c with
      | zero => simp [Lib.splitK]
      | succ k =>
        have hm : c ∈ l := List.count_pos_iff.1 (by omega)
        have h1 : Lib.index l [c] ≠ -1 := by
          intro h0
          rw [Lib.index_one] at h0
          obtain ⟨n, hn, he⟩ := List.getElem_of_mem hm
          exact Lib.indexByte_none h0 n (by rw [List.getElem?_eq_getElem hn, he])
        have hge := Lib.index_ge l [c]
        have h2 : Lib.index (x :: l) [c] = Lib.index l [c] + 1 := by
          rw [Lib.index_one] at h1 ⊢
          rw [Lib.index_one]
          show (if (x == c) = true then (0 : Int) else if (Lib.indexByte l c == -1) = true then -1 else Lib.indexByte l c + 1) = _
          rw [if_neg (by simpa using hx), if_neg (by simpa using h1)]
        unfold Lib.splitK
        rw [h2, if_neg (by simp; omega), if_neg (by simpa using h1)]
        obtain ⟨n, hn⟩ : ∃ n : Nat, Lib.index l [c] = n := ⟨(Lib.index l [c]).toNat, by omega⟩
        rw [hn]
        have e1 : ((n : Int) + 1).toNat = n + 1 := by omega
        simp [e1]
def dash : UInt8 := 45
def valP (s : ByteArray) : Bool := decide (L s = []) || (decide (L s ≠ [116, 114, 117, 101]) && decide (low s = s) && (cutL 45 (L s)).all (fun l => sgns l 3 8))
theorem ev_row {α : Type} (p : α → Bool) (e : Bool) (g : Nat → Nat → Option Bool) : ∀ (xs : List α) (i : Nat), Ev (fun k => g k (i + xs.length)) e →
    (∀ j x, xs[j]? = some x → p x = true → ∀ b, Ev (fun k => g k (i + j + 1)) b → Ev (fun k => g k (i + j)) b) → (∀ j x, xs[j]? = some x → p x = false → Ev (fun k => g k (i + j)) false) → Ev (fun k => g k i) (xs.all p && e) := by
  intro xs
  induction xs with
  | nil => intro i h _ _; simpa using h
  | cons x xs ih =>
    intro i h ht hf
    have hi := ih (i + 1) (by rw [List.length_cons] at h; rw [show i + 1 + xs.length = i + (xs.length + 1) by omega]; exact h)
      (fun j y hy hp b hb => by have := ht (j + 1) y (by simpa using hy) hp b; rw [show i + (j + 1) + 1 = i + 1 + j + 1 by omega, show i + (j + 1) = i + 1 + j by omega] at this; exact this hb)
      (fun j y hy hp => by have := hf (j + 1) y (by simpa using hy) hp; rw [show i + (j + 1) = i + 1 + j by omega] at this; exact this)
    rw [List.all_cons]
    cases hp : p x with
    | true => rw [Bool.true_and]; exact ht 0 x rfl hp _ hi
    | false => rw [Bool.false_and, Bool.false_and]; exact hf 0 x rfl hp
theorem rdOf_at {xs : List ByteArray} {j : Nat} {x : ByteArray} (h : xs[j]? = some x) : j < xs.length ∧ rdOf ByteArray.empty xs (j : Int) = x := by
  have hj : j < xs.length := by
    rcases Nat.lt_or_ge j xs.length with h1 | h1
    · exact h1
    · rw [List.getElem?_eq_none h1] at h; cases h
  exact ⟨hj, by simp [rdOf, h]⟩
theorem valued_l (xs : List ByteArray) (hn : xs.length ≤ 1048577) (hz : ∀ x ∈ xs, x.size ≤ 1048576) : Ev (fun k => tag_valued.l0 k xs (xs.length : Int) 0) (xs.all (fun x => sgns (L x) 3 8)) := by
  have := ev_row (fun x => sgns (L x) 3 8) true (fun k i => tag_valued.l0 k xs (xs.length : Int) (i : Int)) xs 0 ?_ ?_ ?_
  · simpa using this
  · refine Ev.step (f := fun _ => some true) (fun k => ?_) (Ev.now _)
    simp only [tag_valued.l0]
    rw [if_neg (by omega)]
  · intro j x hx hp b hb
    obtain ⟨h1, h2⟩ := rdOf_at hx
    rw [Nat.zero_add] at hb ⊢
    refine Ev.step (f := fun k => (tag_signs.f k x 3 8).bind fun t => if t = true then tag_valued.l0 k xs (xs.length : Int) ((j + 1 : Nat) : Int) else some false) (fun k => ?_) ?_
    · simp only [tag_valued.l0]
      rw [if_pos (by omega), if_pos (by omega), if_pos (by omega), h2, w64 (by omega)]
      rfl
    · refine Ev.bind (signs_f x 3 8 (by have := hz x (List.mem_of_getElem? hx); omega)) ?_
      rw [hp]
      exact hb
  · intro j x hx hp
    obtain ⟨h1, h2⟩ := rdOf_at hx
    rw [Nat.zero_add]
    refine Ev.step (f := fun k => (tag_signs.f k x 3 8).bind fun t => if t = true then tag_valued.l0 k xs (xs.length : Int) ((j + 1 : Nat) : Int) else some false) (fun k => ?_) ?_
    · simp only [tag_valued.l0]
      rw [if_pos (by omega), if_pos (by omega), if_pos (by omega), h2, w64 (by omega)]
      rfl
    · refine Ev.bind (signs_f x 3 8 (by have := hz x (List.mem_of_getElem? hx); omega)) ?_
      rw [hp]
      exact Ev.now _
theorem splitB_small (sep : ByteArray) : ∀ (k : Nat) (s : ByteArray), ∀ p ∈ Lib.splitB sep 0 k s, p.size ≤ s.size
  | 0, s, p, hp => by obtain rfl := List.mem_singleton.1 hp; exact Nat.le_refl _
  | k + 1, s, p, hp => by
    unfold Lib.splitB at hp
    split at hp
    · obtain rfl := List.mem_singleton.1 hp; exact Nat.le_refl _
    · rcases List.mem_cons.1 hp with rfl | h
      · rw [ext_size]; omega
      · have := splitB_small sep k _ p h
        rw [ext_size] at this; omega
theorem all_map (xs : List ByteArray) (p : Bs → Bool) : xs.all (fun x => p (L x)) = (xs.map L).all p := by rw [List.all_map]; rfl
theorem valued_f (s : ByteArray) (hs : s.size ≤ 1048576) : Ev (fun k => tag_valued.f k s) (valP s) := by
  unfold tag_valued.f valP
  rw [toList_L]
  by_cases h0 : L s = []
  · rw [decide_eq_true h0]; simp only [if_pos h0]; exact Ev.now _
  · rw [decide_eq_false h0, Bool.false_or]; simp only [if_neg h0]
    by_cases h1 : L s = [116, 114, 117, 101]
    · simp only [if_pos h1]
      have : decide (L s ≠ [116, 114, 117, 101]) = false := decide_eq_false (fun h => h h1)
      rw [this, Bool.false_and, Bool.false_and]
      exact Ev.step (f := fun k => some false) (fun k => by simp [tag_valued.j0]) (Ev.now _)
    · simp only [if_neg h1]
      rw [decide_eq_true h1, Bool.true_and, lower_f s (by omega)]
      simp only [Option.bind_some, toList_L]
      by_cases h2 : low s = s
      · have e1 : (L s != L (low s)) = false := by rw [h2]; simp
        rw [e1, decide_eq_true h2, Bool.true_and]
        refine Ev.step (f := fun k => (strings_Split.f s ⟨#[45]⟩).bind fun t => tag_valued.l0 k t (t.length : Int) 0) (fun k => by simp only [tag_valued.j0]; rw [if_neg (by simp)]) ?_
        have e2 : strings_Split.f s ⟨#[45]⟩ = some (Lib.splitB ⟨#[45]⟩ 0 (Lib.countB s ⟨#[45]⟩) s) := by
          unfold strings_Split.f
          rw [if_pos (by omega), if_pos (by decide)]
        rw [e2]
        simp only [Option.bind_some]
        have e3 : (Lib.splitB ⟨#[45]⟩ 0 (Lib.countB s ⟨#[45]⟩) s).map L = cutL 45 (L s) := by
          rw [← splitK_cut, ← Lib.count_one]
          exact Lib.splitB_data ⟨#[45]⟩ 0 _ s
        have e4 := all_map (Lib.splitB ⟨#[45]⟩ 0 (Lib.countB s ⟨#[45]⟩) s) (fun l => sgns l 3 8)
        rw [e3] at e4
        rw [← e4]
        refine valued_l _ ?_ (fun x hx => Nat.le_trans (splitB_small _ _ _ x hx) hs)
        have := Lib.splitB_length_le ⟨#[45]⟩ 0 (Lib.countB s ⟨#[45]⟩) s
        have := Lib.countB_le ⟨#[45]⟩ (by decide) s.size s (Nat.le_refl _)
        omega
      · have e1 : (L s != L (low s)) = true := by
          simp only [bne_iff_ne, ne_eq]
          exact fun e => h2 (L_inj e).symm
        rw [e1, decide_eq_false h2, Bool.false_and]
        exact Ev.step (f := fun k => some false) (fun k => by simp [tag_valued.j0]) (Ev.now _)
end Go.Proofs.YtphjhbppjakocaaGreatDoor.Pl
