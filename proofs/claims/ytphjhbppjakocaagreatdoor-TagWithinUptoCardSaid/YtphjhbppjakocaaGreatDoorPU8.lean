/- Printed by a program (the kit's print.py with changes of this session) out of Lean's own print of the program: functions of the program as plain Lean functions, and that each call comes to what they say; conditions: those that each theorem states. Not trusted: Lean checks it. -/
import Derived.Test.YtphjhbppjakocaaGreatDoorPU0
import Derived.Test.YtphjhbppjakocaaGreatDoorBrief
namespace Go.Proofs.YtphjhbppjakocaaGreatDoor.PTag
open Go.RowKit Go.Proofs.YtphjhbppjakocaaGreatDoorW.PrintWords Go.Proofs.YtphjhbppjakocaaGreatDoorW.PrintLast Go.Proofs.YtphjhbppjakocaaGreatDoorW.PrintMore
attribute [local go_sem] max2_int min2_int max_two min_two max_three min_three max_four min_four
set_option linter.unusedVariables false
set_option linter.unusedSimpArgs false
attribute [local go_sem] setCell_drewN_ cell_put_twice_ gtr_less_
def tAt (g : UInt8 → UInt8) (l : List UInt8) (i j : Nat) : UInt8 := if j < i then g (l.getD j 0) else l.getD j 0
theorem tAt_old {g : UInt8 → UInt8} {l : List UInt8} {i j : Nat} (h : i ≤ j) : tAt g l i j = l.getD j 0 := if_neg (by omega)
theorem tAt_next {g : UInt8 → UInt8} {l : List UInt8} {i j : Nat} (h : j ≠ i) : tAt g l (i + 1) j = tAt g l i j := by
  unfold tAt
  by_cases h1 : j < i
  · rw [if_pos h1, if_pos (by omega)]
  · rw [if_neg h1, if_neg (by omega)]
theorem tAt_same {g : UInt8 → UInt8} {l : List UInt8} {i : Nat} (h : g (l.getD i 0) = l.getD i 0) (j : Nat) : tAt g l (i + 1) j = tAt g l i j := by
  by_cases hj : j = i
  · subst hj
    unfold tAt
    rw [if_pos (by omega), if_neg (by omega), h]
  · exact tAt_next hj
theorem tAt_here {g : UInt8 → UInt8} {l : List UInt8} {i : Nat} : tAt g l (i + 1) i = g (l.getD i 0) := if_pos (by omega)
def BytesAt (w : World) (b n : Nat) (f : Nat → UInt8) : Prop := ∀ j, j < n → w.cell? ⟨b, j, none⟩ = some (.int .u8 ((f j).toNat : Int)) ∧ w.frozen? ⟨b, j, none⟩ = false
theorem BytesAt.congr {w : World} {b n : Nat} {f f' : Nat → UInt8} (h : BytesAt w b n f) (he : ∀ j, f' j = f j) : BytesAt w b n f' := fun j hj => by rw [he]; exact h j hj
theorem BytesAt.set {w : World} {b n i : Nat} {f f' : Nat → UInt8} {v : Int} (h : BytesAt w b n f) (he : ∀ j, j ≠ i → f' j = f j) (hv : v = ((f' i).toNat : Int)) : BytesAt (w.setCell ⟨b, i, none⟩ (.int .u8 v)) b n f' := fun j hj => by
  subst hv
  refine ⟨?_, by rw [World.frozen?_setCell]; exact (h j hj).2⟩
  by_cases e : j = i
  · subst e
    exact World.cell?_setCell_same _ _ _ (h j hj).1
  · rw [World.cell?_setCell_other _ _ _ _ (fun hh => e (by injection hh with h1 h2; exact h2.symm)), he j e]
    exact (h j hj).1
theorem BytesAt.conv (w : World) (e : TypeId) (s : ByteArray) : BytesAt (Lib.bytesWorld w e s) w.heap.size s.size (fun j => s.data.toList.getD j 0) := fun j hj => by
  refine ⟨Lib.bytesWorld_cell w e s j hj, ?_⟩
  unfold World.frozen?
  rw [Lib.bytesWorld_at_new]
  have : s.size ≤ (Lib.bytesCells w e s).size := by simp [Lib.bytesCells]
  simp; omega
theorem BytesAt.back {P : Program} {w : World} {b n cap : Nat} {f : Nat → UInt8} (h : BytesAt w b n f) {src dst e : TypeId} (hs : P.underlying src = some (.slice e)) (he : P.underlying e = some (.int .u8)) (hd : P.underlying dst = some .string) {l : List UInt8} (hl : l.length = n) (hf : ∀ j, (hj : j < l.length) → f j = l[j]) :
    (convert src dst (.slice (some ⟨b, 0, none⟩) n cap)).run P w = .ok (.string ⟨l.toArray⟩) w := by
  subst hl
  refine run_convert_bytes_back w src dst e ⟨b, 0, none⟩ cap l hs he hd (fun j hj => ?_)
  have := (h j hj).1
  rw [hf j hj] at this
  have e : (⟨b, 0, none⟩ : Addr).add j = ⟨b, j, none⟩ := by
    unfold Addr.add
    by_cases hj0 : j = 0
    · subst hj0; simp
    · simp [hj0]
  rw [e]; exact this
theorem tAt_done {P : Program} {w : World} {b cap : Nat} {g : UInt8 → UInt8} {s : ByteArray} {src dst e : TypeId} (hs : P.underlying src = some (.slice e)) (he : P.underlying e = some (.int .u8)) (hd : P.underlying dst = some .string) (h : BytesAt w b s.size (tAt g s.data.toList s.size)) :
    (convert src dst (.slice (some ⟨b, 0, none⟩) s.size cap)).run P w = .ok (.string ⟨(s.data.toList.map g).toArray⟩) w := by
  refine h.back hs he hd (by simp) (fun j hj => ?_)
  simp only [List.length_map] at hj
  simp only [List.getElem_map]
  unfold tAt
  rw [if_pos (by simpa using hj), List.getD_eq_getElem?_getD, List.getElem?_eq_getElem hj]; rfl
theorem plainAddr_ {w : World} {ad : Addr} {s : ByteArray} (h : w.cell? ad = some (.string s)) : ∃ b o, ad = ⟨b, o, none⟩ ∧ b < w.heap.size := by
  have hsp : ad.spot = none := by
    cases hs : ad.spot with
    | none => rfl
    | some z =>
      exfalso
      unfold World.cell? at h
      rw [hs] at h
      split at h <;> simp at h
  have hlt := World.block_lt_of_cell? w _ h
  obtain ⟨b, o, sp⟩ := ad
  obtain rfl : sp = none := hsp
  exact ⟨b, o, rfl, hlt⟩
theorem add_plain_ (b o j : Nat) : (⟨b, o, none⟩ : Addr).add j = ⟨b, o + j, none⟩ := by
  unfold Addr.add; by_cases hz : j = 0 <;> simp [hz]
theorem strings_at_ {w : World} {A : Option Addr} {l : List ByteArray} (hr : Kd.C Kd.string w A l.length l) (h0 : 0 < l.length) : ∃ b o, A = some ⟨b, o, none⟩ ∧ b < w.heap.size ∧ ∀ j, j < l.length → w.cell? ⟨b, o + j, none⟩ = some (.string (l.getD j ByteArray.empty)) := by
  have hR := Kd.reads_of_C (enc := Value.string) (d := ByteArray.empty) (h1 := fun _ => rfl) hr
  obtain ⟨ad, rfl, hc⟩ := hR.2.2 h0
  have hc0 := hc 0 h0
  have e0 : ad.add 0 = ad := rfl
  rw [e0] at hc0
  obtain ⟨b, o, rfl, hlt⟩ := plainAddr_ hc0
  refine ⟨b, o, rfl, hlt, fun j hj => ?_⟩
  have := hc j hj
  rwa [add_plain_] at this
instance : Inhabited S39 := ⟨z39⟩
def encKey_ (x : S39) : List Value := [.string x.f0, .string x.f1]
def flatKeys_ (l : List S39) : List Value := l.flatMap encKey_
theorem flatKeys_len (l : List S39) : (flatKeys_ l).length = l.length * 2 := by
  induction l with
  | nil => rfl
  | cons x l ih =>
    have : flatKeys_ (x :: l) = .string x.f0 :: .string x.f1 :: flatKeys_ l := rfl
    rw [this, List.length_cons, List.length_cons, ih, List.length_cons]; omega
theorem flatKeys_get : ∀ (l : List S39) (j : Nat) (p : S39), l[j]? = some p → (flatKeys_ l)[j * 2]? = some (.string p.f0) ∧ (flatKeys_ l)[j * 2 + 1]? = some (.string p.f1)
  | [], j, p, h => by simp at h
  | x :: l, 0, p, h => by
    obtain rfl : x = p := by simpa using h
    exact ⟨rfl, rfl⟩
  | x :: l, j + 1, p, h => by
    have ih := flatKeys_get l j p (by simpa using h)
    have e : flatKeys_ (x :: l) = .string x.f0 :: .string x.f1 :: flatKeys_ l := rfl
    rw [e, show (j + 1) * 2 = j * 2 + 1 + 1 by omega, show j * 2 + 1 + 1 + 1 = (j * 2 + 1) + 1 + 1 by omega]
    simp only [List.getElem?_cons_succ]
    exact ih
theorem flatKeys_at (l : List S39) (j : Nat) (u : Value) (h : (flatKeys_ l)[j]? = some u) : ∃ q i p, j = q * 2 + i ∧ l[q]? = some p ∧ (encKey_ p)[i]? = some u := by
  have hj := (List.getElem?_eq_some_iff.1 h).1
  rw [flatKeys_len] at hj
  have hq : j / 2 < l.length := by omega
  have hp : l[j / 2]? = some l[j / 2] := List.getElem?_eq_getElem hq
  obtain ⟨h0, h1⟩ := flatKeys_get l (j / 2) _ hp
  have hm : j % 2 = 0 ∨ j % 2 = 1 := by omega
  rcases hm with hm | hm
  · refine ⟨j / 2, 0, _, by omega, hp, ?_⟩
    rw [show j / 2 * 2 = j by omega] at h0
    rw [h0] at h; rw [← h]; rfl
  · refine ⟨j / 2, 1, _, by omega, hp, ?_⟩
    rw [show j / 2 * 2 + 1 = j by omega] at h1
    rw [h1] at h; rw [← h]; rfl
theorem flatKeys_piece (l : List S39) (j : Nat) (p : S39) (h : l[j]? = some p) : ((flatKeys_ l).drop (j * 2)).take 2 = encKey_ p := by
  obtain ⟨h0, h1⟩ := flatKeys_get l j p h
  have l0 := (List.getElem?_eq_some_iff.1 h0).1
  have l1 := (List.getElem?_eq_some_iff.1 h1).1
  have e0 := (List.getElem?_eq_some_iff.1 h0).2
  have e1 := (List.getElem?_eq_some_iff.1 h1).2
  rw [List.drop_eq_getElem_cons l0, List.drop_eq_getElem_cons l1, e0, e1]
  rfl
theorem keys_at_ {w : World} {A : Option Addr} {l : List S39} (hr : Kd.C k39 w A l.length l) (h0 : 0 < l.length) : ∃ b o, A = some ⟨b, o, none⟩ ∧ b < w.heap.size ∧ ∀ j u, (flatKeys_ l)[j]? = some u → w.cell? ⟨b, o + j, none⟩ = some u := by
  obtain ⟨ad, rfl, hc⟩ := hr.2.2 h0
  have hget : ∀ j p, l[j]? = some p → ∀ i u, (encKey_ p)[i]? = some u → w.cell? (ad.add (j * 2 + i)) = some u := fun j p hp i u hu => by
    obtain ⟨c, _, hk, hcell⟩ := hc j p hp
    obtain rfl := k39_open hk
    exact hcell i u hu
  have hfirst := hget 0 _ (List.getElem?_eq_getElem h0) 0 _ rfl
  have e0 : ad.add (0 * 2 + 0) = ad := rfl
  rw [e0] at hfirst
  obtain ⟨b, o, rfl, hlt⟩ := plainAddr_ hfirst
  refine ⟨b, o, rfl, hlt, fun j u hu => ?_⟩
  obtain ⟨q, i, p, rfl, hp, hi⟩ := flatKeys_at l j u hu
  have := hget q p hp i u hi
  rwa [add_plain_] at this
theorem keys_own_ {w : World} {base : Nat} {v : Value} {l : List S39} {ok : Nat → Prop} (ho : w.ownsRow base 39 2 v l.length (flatKeys_ l)) (hok : ∀ k, v.ownBlock = some k → ok k) : Kd.R k39 39 w base ok v l :=
  ⟨hok, flatKeys_ l, ho, flatKeys_len l, fun j p hp => by rw [show (k39).sz = 2 from rfl, flatKeys_piece l j p hp]; exact ⟨[.string p.f0], [.string p.f1], rfl, rfl, rfl⟩⟩
theorem keys_of_R_ {w : World} {base : Nat} {v : Value} {l : List S39} {ok : Nat → Prop} (h : Kd.R k39 39 w base ok v l) : w.ownsRow base 39 2 v l.length (flatKeys_ l) := by
  obtain ⟨_, inner, ho, hl, hr⟩ := h
  have e : inner = flatKeys_ l := by
    have hl' : inner.length = l.length * 2 := hl
    apply List.ext_getElem?
    intro j
    by_cases hj : j < l.length * 2
    · have hq : j / 2 < l.length := by omega
      have hp : l[j / 2]? = some l[j / 2] := List.getElem?_eq_getElem hq
      have h2 := hr _ _ hp
      have hsz : (k39).sz = 2 := rfl
      rw [hsz] at h2
      have h3 := k39_openM h2
      have h4 := flatKeys_piece l _ _ hp
      have h5 : ((inner.drop (j / 2 * 2)).take 2)[j % 2]? = (((flatKeys_ l).drop (j / 2 * 2)).take 2)[j % 2]? := by rw [h3, h4]; rfl
      rw [List.getElem?_take_of_lt (by omega), List.getElem?_take_of_lt (by omega), List.getElem?_drop, List.getElem?_drop, show j / 2 * 2 + j % 2 = j by omega] at h5
      exact h5
    · rw [List.getElem?_eq_none (by omega), List.getElem?_eq_none (by rw [flatKeys_len]; omega)]
  rw [← e]
  exact ho
def tag_lower.g (b : UInt8) : UInt8 := if 65 ≤ b.toNat ∧ b.toNat ≤ 90 then UInt8.ofNat (b.toNat + 32) else b
def tag_lower.f (a0 : ByteArray) : Option ByteArray := if a0.size < 9223372036854775807 then some ⟨(a0.data.toList.map tag_lower.g).toArray⟩ else none
set_option maxHeartbeats 4000000 in
set_option maxRecDepth 100000 in
theorem tag_lower.calls (a0 r : ByteArray) (w : World) (h : tag_lower.f a0 = some r) :
    Calls Tryz.prog 44 #[.string a0] w fun e w' => e = .returned (.string r) ∧ Below w.heap.size w w' := by
  unfold tag_lower.f at h
  by_cases hs : a0.size < 9223372036854775807
  · rw [if_pos hs] at h
    obtain rfl := Option.some.inj h
    clear h
    have hcv : ∀ W : World, (convert 9 82 (.string a0)).run Tryz.prog W = .ok (.slice (some ⟨W.heap.size, 0, none⟩) a0.size (grownCap W a0.size 0 5)) (Lib.bytesWorld W 5 a0) := fun W => Lib.run_convert_string_bytes W 9 82 5 a0 Tryz.underlying9 Tryz.underlying82 Tryz.underlying5
    have hB0 : Below w.heap.size w (Lib.bytesWorld w 5 a0) := bytes_below (Below.refl _ _) (Nat.le_refl _) 5 a0
    have hC0 : BytesAt (Lib.bytesWorld w 5 a0) w.heap.size a0.size (tAt tag_lower.g a0.data.toList 0) := (BytesAt.conv w 5 a0).congr (fun j => tAt_old (Nat.zero_le _))
    go_enter Tryz.func44, Tryz.ntmps44
    go_wp2
    go_loopg [10] (a0.size + 1) (fun kq v10 w' => ∃ i : Nat, v10 = .int .i64 (i : Int) ∧ Aside0 (kq + i = a0.size + 1) ∧ Aside0 (i ≤ a0.size) ∧ Aside0 (BytesAt w' w.heap.size a0.size (tAt tag_lower.g a0.data.toList i)) ∧ Aside0 (Below w.heap.size w w'))
    case atStart => exact ⟨0, rfl, ⟨rfl⟩, ⟨Nat.zero_le _⟩, ⟨hC0⟩, ⟨hB0⟩⟩
    case round =>
      obtain ⟨i, rfl, HK, HI, HC, HB⟩ := hrel
      cases gk with
      | zero => exact absurd HK.out (by have := HI.out; omega)
      | succ k1 =>
        by_cases c1 : i < a0.size
        · have t1 : decide ((i : Int) < (a0.size : Int)) = true := decide_eq_true (by omega)
          obtain ⟨x, hx⟩ : ∃ x, x = a0.data.toList.getD i 0 := ⟨_, rfl⟩
          have hcell := (HC.out i c1).1
          have hfz := (HC.out i c1).2
          rw [tAt_old (Nat.le_refl _), ← hx] at hcell
          have HX := Aside0.mk hx
          clear hx
          have hw1 : IntKind.i64.wrap ((i : Int) + 1) = (i : Int) + 1 := by simp [IntKind.wrap, IntKind.bits, IntKind.signed]; omega
          have hxl := x.toNat_lt
          have HXL := Aside0.mk hxl
          clear hxl
          by_cases c2 : 65 ≤ x.toNat ∧ x.toNat ≤ 90
          · have t2 : decide ((65 : Int) ≤ (x.toNat : Int)) = true := decide_eq_true (by omega)
            have t3 : decide ((x.toNat : Int) ≤ 90) = true := decide_eq_true (by omega)
            have C2 := Aside0.mk c2
            clear c2
            go_wp2
            go_roundg k1
            case measure => omega
            case rel => exact ⟨i + 1, by go_num, ⟨by have := HK.out; omega⟩, ⟨by omega⟩, ⟨HC.out.set (fun j hj => tAt_next hj) (by rw [tAt_here, ← HX.out]; unfold tag_lower.g; rw [if_pos C2.out, UInt8.toNat_ofNat']; have := C2.out; first | omega | (simp [IntKind.wrap, IntKind.bits, IntKind.signed]; omega))⟩, ⟨HB.out.setCell (Nat.le_refl _) _⟩⟩
          · have hlow : tag_lower.g x = x := if_neg c2
            have HL := Aside0.mk hlow
            clear hlow
            by_cases c3 : 65 ≤ x.toNat
            · have t2 : decide ((65 : Int) ≤ (x.toNat : Int)) = true := decide_eq_true (by omega)
              have t3 : decide ((x.toNat : Int) ≤ 90) = false := decide_eq_false (by omega)
              clear c2 c3
              go_wp2
              go_roundg k1
              case measure => omega
              case rel => exact ⟨i + 1, by go_num, ⟨by have := HK.out; omega⟩, ⟨by omega⟩, ⟨HC.out.congr (fun j => tAt_same (by rw [← HX.out]; exact HL.out) j)⟩, ⟨HB.out⟩⟩
            · have t2 : decide ((65 : Int) ≤ (x.toNat : Int)) = false := decide_eq_false (by omega)
              clear c2 c3
              go_wp2
              go_roundg k1
              case measure => omega
              case rel => exact ⟨i + 1, by go_num, ⟨by have := HK.out; omega⟩, ⟨by omega⟩, ⟨HC.out.congr (fun j => tAt_same (by rw [← HX.out]; exact HL.out) j)⟩, ⟨HB.out⟩⟩
        · have t1 : decide ((i : Int) < (a0.size : Int)) = false := decide_eq_false (by omega)
          have hi : i = a0.size := by have := HI.out; omega
          subst hi
          have hbk := tAt_done (P := Tryz.prog) (cap := grownCap w a0.size 0 5) Tryz.underlying82 Tryz.underlying5 Tryz.underlying9 HC.out
          go_wp2
          go_ret
          exact ⟨rfl, HB.out⟩
  · rw [if_neg hs] at h; cases h
end Go.Proofs.YtphjhbppjakocaaGreatDoor.PTag
