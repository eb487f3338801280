/- Several texts of this claim in one: PU8,PU9,PU10,PU11; conditions: those that each theorem states. -/
import Derived.Test.YtphjhbppjakocaaGreatDoorPU0
import Derived.Test.YtphjhbppjakocaaGreatDoorBrief
namespace Go.Proofs.YtphjhbppjakocaaGreatDoor.PTag
open Go.RowKit Go.Proofs.YtphjhbppjakocaaGreatDoorW.PrintWords Go.Proofs.YtphjhbppjakocaaGreatDoorW.PrintLast Go.Proofs.YtphjhbppjakocaaGreatDoorW.PrintMore
attribute [local go_sem] max2_int min2_int max_two min_two max_three min_three max_four min_four
set_option linter.unusedVariables false
set_option linter.unusedSimpArgs false
attribute [local go_sem] setCell_drewN_ cell_put_twice_ gtr_less_
def tAt (g : UInt8 → UInt8) (l : List UInt8) (i j : Nat) : UInt8 := if j < i then g (l.getD j 0) else l.getD j 0
theorem tAt_old {g : UInt8 → UInt8} {l : List UInt8} {i j : Nat} (h : i ≤ j) : tAt g l i j = l.getD j 0 := if_neg (by omega)
theorem tAt_next {g : UInt8 → UInt8} {l : List UInt8} {i j : Nat} (h : j ≠ i) : tAt g l (i + 1) j = tAt g l i j := by
  unfold tAt
  by_cases h1 : j < i
  · rw [if_pos h1, if_pos (by omega)]
  · rw [if_neg h1, if_neg (by omega)]
theorem tAt_same {g : UInt8 → UInt8} {l : List UInt8} {i : Nat} (h : g (l.getD i 0) = l.getD i 0) (j : Nat) : tAt g l (i + 1) j = tAt g l i j := by
  by_cases hj : j = i
  · subst hj
    unfold tAt
    rw [if_pos (by omega), if_neg (by omega), h]
  · exact tAt_next hj
theorem tAt_here {g : UInt8 → UInt8} {l : List UInt8} {i : Nat} : tAt g l (i + 1) i = g (l.getD i 0) := if_pos (by omega)
def BytesAt (w : World) (b n : Nat) (f : Nat → UInt8) : Prop := ∀ j, j < n → w.cell? ⟨b, j, none⟩ = some (.int .u8 ((f j).toNat : Int)) ∧ w.frozen? ⟨b, j, none⟩ = false
theorem BytesAt.congr {w : World} {b n : Nat} {f f' : Nat → UInt8} (h : BytesAt w b n f) (he : ∀ j, f' j = f j) : BytesAt w b n f' := fun j hj => by rw [he]; exact h j hj
theorem BytesAt.set {w : World} {b n i : Nat} {f f' : Nat → UInt8} {v : Int} (h : BytesAt w b n f) (he : ∀ j, j ≠ i → f' j = f j) (hv : v = ((f' i).toNat : Int)) : BytesAt (w.setCell ⟨b, i, none⟩ (.int .u8 v)) b n f' := fun j hj => by
  subst hv
  refine ⟨?_, by rw [World.frozen?_setCell]; exact (h j hj).2⟩
  by_cases e : j = i
  · subst e
    exact World.cell?_setCell_same _ _ _ (h j hj).1
  · rw [World.cell?_setCell_other _ _ _ _ (fun hh => e (by injection hh with h1 h2; exact h2.symm)), he j e]
    exact (h j hj).1
theorem BytesAt.conv (w : World) (e : TypeId) (s : ByteArray) : BytesAt (Lib.bytesWorld w e s) w.heap.size s.size (fun j => s.data.toList.getD j 0) := fun j hj => by
  refine ⟨Lib.bytesWorld_cell w e s j hj, ?_⟩
  unfold World.frozen?
  rw [Lib.bytesWorld_at_new]
  have : s.size ≤ (Lib.bytesCells w e s).size := by simp [Lib.bytesCells]
  simp; omega
theorem BytesAt.back {P : Program} {w : World} {b n cap : Nat} {f : Nat → UInt8} (h : BytesAt w b n f) {src dst e : TypeId} (hs : P.underlying src = some (.slice e)) (he : P.underlying e = some (.int .u8)) (hd : P.underlying dst = some .string) {l : List UInt8} (hl : l.length = n) (hf : ∀ j, (hj : j < l.length) → f j = l[j]) :
    (convert src dst (.slice (some ⟨b, 0, none⟩) n cap)).run P w = .ok (.string ⟨l.toArray⟩) w := by
  subst hl
  refine run_convert_bytes_back w src dst e ⟨b, 0, none⟩ cap l hs he hd (fun j hj => ?_)
  have := (h j hj).1
  rw [hf j hj] at this
  have e : (⟨b, 0, none⟩ : Addr).add j = ⟨b, j, none⟩ := by
    unfold Addr.add
    by_cases hj0 : j = 0
    · subst hj0; simp
    · simp [hj0]
  rw [e]; exact this
theorem tAt_done {P : Program} {w : World} {b cap : Nat} {g : UInt8 → UInt8} {s : ByteArray} {src dst e : TypeId} (hs : P.underlying src = some (.slice e)) (he : P.underlying e = some (.int .u8)) (hd : P.underlying dst = some .string) (h : BytesAt w b s.size (tAt g s.data.toList s.size)) :
    (convert src dst (.slice (some ⟨b, 0, none⟩) s.size cap)).run P w = .ok (.string ⟨(s.data.toList.map g).toArray⟩) w := by
  refine h.back hs he hd (by simp) (fun j hj => ?_)
  simp only [List.length_map] at hj
  simp only [List.getElem_map]
  unfold tAt
  rw [if_pos (by simpa using hj), List.getD_eq_getElem?_getD, List.getElem?_eq_getElem hj]; rfl
theorem plainAddr_ {w : World} {ad : Addr} {s : ByteArray} (h : w.cell? ad = some (.string s)) : ∃ b o, ad = ⟨b, o, none⟩ ∧ b < w.heap.size := by
  have hsp : ad.spot = none := by
    cases hs : ad.spot with
    | none => rfl
    | some z =>
      exfalso
      unfold World.cell? at h
      rw [hs] at h
      split at h <;> simp at h
  have hlt := World.block_lt_of_cell? w _ h
  obtain ⟨b, o, sp⟩ := ad
  obtain rfl : sp = none := hsp
  exact ⟨b, o, rfl, hlt⟩
theorem add_plain_ (b o j : Nat) : (⟨b, o, none⟩ : Addr).add j = ⟨b, o + j, none⟩ := by
  unfold Addr.add; by_cases hz : j = 0 <;> simp [hz]
theorem strings_at_ {w : World} {A : Option Addr} {l : List ByteArray} (hr : Kd.C Kd.string w A l.length l) (h0 : 0 < l.length) : ∃ b o, A = some ⟨b, o, none⟩ ∧ b < w.heap.size ∧ ∀ j, j < l.length → w.cell? ⟨b, o + j, none⟩ = some (.string (l.getD j ByteArray.empty)) := by
  have hR := Kd.reads_of_C (enc := Value.string) (d := ByteArray.empty) (h1 := fun _ => rfl) hr
  obtain ⟨ad, rfl, hc⟩ := hR.2.2 h0
  have hc0 := hc 0 h0
  have e0 : ad.add 0 = ad := rfl
  rw [e0] at hc0
  obtain ⟨b, o, rfl, hlt⟩ := plainAddr_ hc0
  refine ⟨b, o, rfl, hlt, fun j hj => ?_⟩
  have := hc j hj
  rwa [add_plain_] at this
instance : Inhabited S39 := ⟨z39⟩
def encKey_ (x : S39) : List Value := [.string x.f0, .string x.f1]
def flatKeys_ (l : List S39) : List Value := l.flatMap encKey_
theorem flatKeys_len (l : List S39) : (flatKeys_ l).length = l.length * 2 := by
  induction l with
  | nil => rfl
  | cons x l ih =>
    have : flatKeys_ (x :: l) = .string x.f0 :: .string x.f1 :: flatKeys_ l := rfl
    rw [this, List.length_cons, List.length_cons, ih, List.length_cons]; omega
theorem flatKeys_get : ∀ (l : List S39) (j : Nat) (p : S39), l[j]? = some p → (flatKeys_ l)[j * 2]? = some (.string p.f0) ∧ (flatKeys_ l)[j * 2 + 1]? = some (.string p.f1)
  | [], j, p, h => by simp at h
  | x :: l, 0, p, h => by
    obtain rfl : x = p := by simpa using h
    exact ⟨rfl, rfl⟩
  | x :: l, j + 1, p, h => by
    have ih := flatKeys_get l j p (by simpa using h)
    have e : flatKeys_ (x :: l) = .string x.f0 :: .string x.f1 :: flatKeys_ l := rfl
    rw [e, show (j + 1) * 2 = j * 2 + 1 + 1 by omega, show j * 2 + 1 + 1 + 1 = (j * 2 + 1) + 1 + 1 by omega]
    simp only [List.getElem?_cons_succ]
    exact ih
theorem flatKeys_at (l : List S39) (j : Nat) (u : Value) (h : (flatKeys_ l)[j]? = some u) : ∃ q i p, j = q * 2 + i ∧ l[q]? = some p ∧ (encKey_ p)[i]? = some u := by
  have hj := (List.getElem?_eq_some_iff.1 h).1
  rw [flatKeys_len] at hj
  have hq : j / 2 < l.length := by omega
  have hp : l[j / 2]? = some l[j / 2] := List.getElem?_eq_getElem hq
  obtain ⟨h0, h1⟩ := flatKeys_get l (j / 2) _ hp
  have hm : j % 2 = 0 ∨ j % 2 = 1 := by omega
  rcases hm with hm | hm
  · refine ⟨j / 2, 0, _, by omega, hp, ?_⟩
    rw [show j / 2 * 2 = j by omega] at h0
    rw [h0] at h; rw [← h]; rfl
  · refine ⟨j / 2, 1, _, by omega, hp, ?_⟩
    rw [show j / 2 * 2 + 1 = j by omega] at h1
    rw [h1] at h; rw [← h]; rfl
theorem flatKeys_piece (l : List S39) (j : Nat) (p : S39) (h : l[j]? = some p) : ((flatKeys_ l).drop (j * 2)).take 2 = encKey_ p := by
  obtain ⟨h0, h1⟩ := flatKeys_get l j p h
  have l0 := (List.getElem?_eq_some_iff.1 h0).1
  have l1 := (List.getElem?_eq_some_iff.1 h1).1
  have e0 := (List.getElem?_eq_some_iff.1 h0).2
  have e1 := (List.getElem?_eq_some_iff.1 h1).2
  rw [List.drop_eq_getElem_cons l0, List.drop_eq_getElem_cons l1, e0, e1]
  rfl
theorem keys_at_ {w : World} {A : Option Addr} {l : List S39} (hr : Kd.C k39 w A l.length l) (h0 : 0 < l.length) : ∃ b o, A = some ⟨b, o, none⟩ ∧ b < w.heap.size ∧ ∀ j u, (flatKeys_ l)[j]? = some u → w.cell? ⟨b, o + j, none⟩ = some u := by
  obtain ⟨ad, rfl, hc⟩ := hr.2.2 h0
  have hget : ∀ j p, l[j]? = some p → ∀ i u, (encKey_ p)[i]? = some u → w.cell? (ad.add (j * 2 + i)) = some u := fun j p hp i u hu => by
    obtain ⟨c, _, hk, hcell⟩ := hc j p hp
    obtain rfl := k39_open hk
    exact hcell i u hu
  have hfirst := hget 0 _ (List.getElem?_eq_getElem h0) 0 _ rfl
  have e0 : ad.add (0 * 2 + 0) = ad := rfl
  rw [e0] at hfirst
  obtain ⟨b, o, rfl, hlt⟩ := plainAddr_ hfirst
  refine ⟨b, o, rfl, hlt, fun j u hu => ?_⟩
  obtain ⟨q, i, p, rfl, hp, hi⟩ := flatKeys_at l j u hu
  have := hget q p hp i u hi
  rwa [add_plain_] at this
theorem keys_own_ {w : World} {base : Nat} {v : Value} {l : List S39} {ok : Nat → Prop} (ho : w.ownsRow base 39 2 v l.length (flatKeys_ l)) (hok : ∀ k, v.ownBlock = some k → ok k) : Kd.R k39 39 w base ok v l :=
  ⟨hok, flatKeys_ l, ho, flatKeys_len l, fun j p hp => by rw [show (k39).sz = 2 from rfl, flatKeys_piece l j p hp]; exact ⟨[.string p.f0], [.string p.f1], rfl, rfl, rfl⟩⟩
theorem keys_of_R_ {w : World} {base : Nat} {v : Value} {l : List S39} {ok : Nat → Prop} (h : Kd.R k39 39 w base ok v l) : w.ownsRow base 39 2 v l.length (flatKeys_ l) := by
  obtain ⟨_, inner, ho, hl, hr⟩ := h
  have e : inner = flatKeys_ l := by
    have hl' : inner.length = l.length * 2 := hl
    apply List.ext_getElem?
    intro j
    by_cases hj : j < l.length * 2
    · have hq : j / 2 < l.length := by omega
      have hp : l[j / 2]? = some l[j / 2] := List.getElem?_eq_getElem hq
      have h2 := hr _ _ hp
      have hsz : (k39).sz = 2 := rfl
      rw [hsz] at h2
      have h3 := k39_openM h2
      have h4 := flatKeys_piece l _ _ hp
      have h5 : ((inner.drop (j / 2 * 2)).take 2)[j % 2]? = (((flatKeys_ l).drop (j / 2 * 2)).take 2)[j % 2]? := by rw [h3, h4]; rfl
      rw [List.getElem?_take_of_lt (by omega), List.getElem?_take_of_lt (by omega), List.getElem?_drop, List.getElem?_drop, show j / 2 * 2 + j % 2 = j by omega] at h5
      exact h5
    · rw [List.getElem?_eq_none (by omega), List.getElem?_eq_none (by rw [flatKeys_len]; omega)]
  rw [← e]
  exact ho
def tag_lower.g (b : UInt8) : UInt8 := if 65 ≤ b.toNat ∧ b.toNat ≤ 90 then UInt8.ofNat (b.toNat + 32) else b
def tag_lower.f (a0 : ByteArray) : Option ByteArray := if a0.size < 9223372036854775807 then some ⟨(a0.data.toList.map tag_lower.g).toArray⟩ else none
set_option maxHeartbeats 4000000 in
set_option maxRecDepth 100000 in
theorem tag_lower.calls (a0 r : ByteArray) (w : World) (h : tag_lower.f a0 = some r) :
    Calls Tryz.prog 44 #[.string a0] w fun e w' => e = .returned (.string r) ∧ Below w.heap.size w w' := by
  unfold tag_lower.f at h
  by_cases hs : a0.size < 9223372036854775807
  · rw [if_pos hs] at h
    obtain rfl := Option.some.inj h
    clear h
    have hcv : ∀ W : World, (convert 9 82 (.string a0)).run Tryz.prog W = .ok (.slice (some ⟨W.heap.size, 0, none⟩) a0.size (grownCap W a0.size 0 5)) (Lib.bytesWorld W 5 a0) := fun W => Lib.run_convert_string_bytes W 9 82 5 a0 Tryz.underlying9 Tryz.underlying82 Tryz.underlying5
    have hB0 : Below w.heap.size w (Lib.bytesWorld w 5 a0) := bytes_below (Below.refl _ _) (Nat.le_refl _) 5 a0
    have hC0 : BytesAt (Lib.bytesWorld w 5 a0) w.heap.size a0.size (tAt tag_lower.g a0.data.toList 0) := (BytesAt.conv w 5 a0).congr (fun j => tAt_old (Nat.zero_le _))
    go_enter Tryz.func44, Tryz.ntmps44
    go_wp2
    go_loopg [10] (a0.size + 1) (fun kq v10 w' => ∃ i : Nat, v10 = .int .i64 (i : Int) ∧ Aside0 (kq + i = a0.size + 1) ∧ Aside0 (i ≤ a0.size) ∧ Aside0 (BytesAt w' w.heap.size a0.size (tAt tag_lower.g a0.data.toList i)) ∧ Aside0 (Below w.heap.size w w'))
    case atStart => exact ⟨0, rfl, ⟨rfl⟩, ⟨Nat.zero_le _⟩, ⟨hC0⟩, ⟨hB0⟩⟩
    case round =>
      obtain ⟨i, rfl, HK, HI, HC, HB⟩ := hrel
      cases gk with
      | zero => exact absurd HK.out (by have := HI.out; omega)
      | succ k1 =>
        by_cases c1 : i < a0.size
        · have t1 : decide ((i : Int) < (a0.size : Int)) = true := decide_eq_true (by omega)
          obtain ⟨x, hx⟩ : ∃ x, x = a0.data.toList.getD i 0 := ⟨_, rfl⟩
          have hcell := (HC.out i c1).1
          have hfz := (HC.out i c1).2
          rw [tAt_old (Nat.le_refl _), ← hx] at hcell
          have HX := Aside0.mk hx
          clear hx
          have hw1 : IntKind.i64.wrap ((i : Int) + 1) = (i : Int) + 1 := by simp [IntKind.wrap, IntKind.bits, IntKind.signed]; omega
          have hxl := x.toNat_lt
          have HXL := Aside0.mk hxl
          clear hxl
          by_cases c2 : 65 ≤ x.toNat ∧ x.toNat ≤ 90
          · have t2 : decide ((65 : Int) ≤ (x.toNat : Int)) = true := decide_eq_true (by omega)
            have t3 : decide ((x.toNat : Int) ≤ 90) = true := decide_eq_true (by omega)
            have C2 := Aside0.mk c2
            clear c2
            go_wp2
            go_roundg k1
            case measure => omega
            case rel => exact ⟨i + 1, by go_num, ⟨by have := HK.out; omega⟩, ⟨by omega⟩, ⟨HC.out.set (fun j hj => tAt_next hj) (by rw [tAt_here, ← HX.out]; unfold tag_lower.g; rw [if_pos C2.out, UInt8.toNat_ofNat']; have := C2.out; first | omega | (simp [IntKind.wrap, IntKind.bits, IntKind.signed]; omega))⟩, ⟨HB.out.setCell (Nat.le_refl _) _⟩⟩
          · have hlow : tag_lower.g x = x := if_neg c2
            have HL := Aside0.mk hlow
            clear hlow
            by_cases c3 : 65 ≤ x.toNat
            · have t2 : decide ((65 : Int) ≤ (x.toNat : Int)) = true := decide_eq_true (by omega)
              have t3 : decide ((x.toNat : Int) ≤ 90) = false := decide_eq_false (by omega)
              clear c2 c3
              go_wp2
              go_roundg k1
              case measure => omega
              case rel => exact ⟨i + 1, by go_num, ⟨by have := HK.out; omega⟩, ⟨by omega⟩, ⟨HC.out.congr (fun j => tAt_same (by rw [← HX.out]; exact HL.out) j)⟩, ⟨HB.out⟩⟩
            · have t2 : decide ((65 : Int) ≤ (x.toNat : Int)) = false := decide_eq_false (by omega)
              clear c2 c3
              go_wp2
              go_roundg k1
              case measure => omega
              case rel => exact ⟨i + 1, by go_num, ⟨by have := HK.out; omega⟩, ⟨by omega⟩, ⟨HC.out.congr (fun j => tAt_same (by rw [← HX.out]; exact HL.out) j)⟩, ⟨HB.out⟩⟩
        · have t1 : decide ((i : Int) < (a0.size : Int)) = false := decide_eq_false (by omega)
          have hi : i = a0.size := by have := HI.out; omega
          subst hi
          have hbk := tAt_done (P := Tryz.prog) (cap := grownCap w a0.size 0 5) Tryz.underlying82 Tryz.underlying5 Tryz.underlying9 HC.out
          go_wp2
          go_ret
          exact ⟨rfl, HB.out⟩
  · rw [if_neg hs] at h; cases h
end Go.Proofs.YtphjhbppjakocaaGreatDoor.PTag
namespace Go.Proofs.YtphjhbppjakocaaGreatDoor.PTag
open Go.RowKit Go.Proofs.YtphjhbppjakocaaGreatDoorW.PrintWords Go.Proofs.YtphjhbppjakocaaGreatDoorW.PrintLast Go.Proofs.YtphjhbppjakocaaGreatDoorW.PrintMore
attribute [local go_sem] max2_int min2_int max_two min_two max_three min_three max_four min_four
set_option linter.unusedVariables false
set_option linter.unusedSimpArgs false
attribute [local go_sem] setCell_drewN_ cell_put_twice_ gtr_less_
mutual
def tag_letters.l0 : Nat → ByteArray → Int → Int → Int → Int → Option (Bool)
 | 0, _, _, _, _, _ => none
 | k + 1, x0, x1, x2, x10, x11 => if x11 < x10 then (if 0 ≤ x11 then (if x11 < (x0.size : Int) then (if (Go.bits .or .u8 (bt x0 x11) 32) < 97 then (tag_letters.j1 k x0 x1 x2 x10 x11 true) else (tag_letters.j1 k x0 x1 x2 x10 x11 (decide ((Go.bits .or .u8 (bt x0 x11) 32) > 122)))) else (none)) else (none)) else (if (x0.size : Int) ≥ x1 then (some (decide ((x0.size : Int) ≤ x2))) else (some false))
def tag_letters.j1 : Nat → ByteArray → Int → Int → Int → Int → Bool → Option (Bool)
 | 0, _, _, _, _, _, _ => none
 | k + 1, x0, x1, x2, x10, x11, x23 => if x23 = true then (some false) else (tag_letters.l0 k x0 x1 x2 x10 (wrap64 (x11 + 1)))
end
def tag_letters.f (k : Nat) (a0 : ByteArray) (a1 : Int) (a2 : Int) : Option (Bool) := tag_letters.l0 k a0 a1 a2 (a0.size : Int) 0
theorem tag_letters.mono_l : ∀ k, (∀ y0 y1 y2 y3 y4, LeO (tag_letters.l0 k y0 y1 y2 y3 y4) (tag_letters.l0 (k + 1) y0 y1 y2 y3 y4)) ∧ (∀ y0 y1 y2 y3 y4 y5, LeO (tag_letters.j1 k y0 y1 y2 y3 y4 y5) (tag_letters.j1 (k + 1) y0 y1 y2 y3 y4 y5))
 | 0 => ⟨fun _ _ _ _ _ r h => by simp [tag_letters.l0] at h, fun _ _ _ _ _ _ r h => by simp [tag_letters.j1] at h⟩
 | k + 1 => by
  obtain ⟨ih0, ih1⟩ := tag_letters.mono_l k
  refine ⟨?_, ?_⟩
  intro y0 y1 y2 y3 y4; unfold tag_letters.l0; rotate_left
  intro y0 y1 y2 y3 y4 y5; unfold tag_letters.j1; rotate_left
  all_goals repeat' first
   | (with_reducible exact ih0 _ _ _ _ _)
   | (with_reducible exact ih1 _ _ _ _ _ _)
   | (with_reducible exact LeO.refl _)
   | (with_reducible exact LeO.none _)
   | (with_reducible refine LeO.ite ?_ ?_)
   | (with_reducible refine LeO.bind ?_ (fun _ => ?_))
   | exact ih0 _ _ _ _ _
   | exact ih1 _ _ _ _ _ _
   | exact LeO.none _
   | refine LeO.ite ?_ ?_
   | refine LeO.bind ?_ (fun _ => ?_)
theorem tag_letters.mono : ∀ a0 a1 a2 k, LeO (tag_letters.f k a0 a1 a2) (tag_letters.f (k + 1) a0 a1 a2) := by
 intro a0 a1 a2 k
 obtain ⟨ih0, ih1⟩ := tag_letters.mono_l k
 unfold tag_letters.f
 repeat' first
   | (with_reducible exact ih0 _ _ _ _ _)
   | (with_reducible exact ih1 _ _ _ _ _ _)
   | (with_reducible exact LeO.refl _)
   | (with_reducible exact LeO.none _)
   | (with_reducible refine LeO.ite ?_ ?_)
   | (with_reducible refine LeO.bind ?_ (fun _ => ?_))
   | exact ih0 _ _ _ _ _
   | exact ih1 _ _ _ _ _ _
   | exact LeO.none _
   | refine LeO.ite ?_ ?_
   | refine LeO.bind ?_ (fun _ => ?_)
set_option maxHeartbeats 8000000 in
set_option maxRecDepth 100000 in
theorem tag_letters.calls (k : Nat) (a0 : ByteArray) (a1 : Int) (a2 : Int) (r : Bool) (w : World) (h : tag_letters.f k a0 a1 a2 = some r) :
  Calls Tryz.prog 53 #[.string a0, .int .i64 a1, .int .i64 a2] w fun e w' => e = .returned (.bool r) ∧ Drawn0 w w' := by
 have H : (tag_letters.l0 k a0 a1 a2 (a0.size : Int) 0) = some r := h
 clear h
 have H' := Aside0.mk H
 clear H
 go_enter Tryz.func53, Tryz.ntmps53
 go_wp2
 go_loopg [11] k (fun kq v11 w' => ∃ (x11_1 : Int), v11 = .int .i64 x11_1 ∧ Aside0 (tag_letters.l0 kq a0 a1 a2 (a0.size : Int) x11_1 = some r) ∧ Aside0 (kq ≤ k) ∧ Drawn0 w w')
 case atStart => exact ⟨(0), (by first | rfl | (simp; done) | (simp [*]; done)), H', ⟨Nat.le_refl _⟩, by repeat (first | exact Drawn0.refl _ | apply Drawn0.step)⟩
 case round =>
  clear H'
  try clear p2
  obtain ⟨x11_1, rfl, HA, HK1, ⟨m1, rfl⟩⟩ := hrel
  cases gk with
  | zero => exact absurd HA.out (by simp [tag_letters.l0])
  | succ k1 =>
   have H := HA.out
   clear HA
   simp only [tag_letters.l0] at H
   by_cases c4 : x11_1 < (a0.size : Int)
   ·rw [if_pos c4] at H
    have c4b0 : decide (x11_1 < (a0.size : Int)) = true := decide_eq_true c4
    clear c4
    by_cases c5 : 0 ≤ x11_1
    ·rw [if_pos c5] at H
     have c5b0 : decide (0 ≤ x11_1) = true := decide_eq_true c5
     clear c5
     by_cases c6 : x11_1 < (a0.size : Int)
     ·rw [if_pos c6] at H
      have c6b0 : decide (x11_1 < (a0.size : Int)) = true := decide_eq_true c6
      clear c6
      have HC8 := Aside0.mk H
      clear H
      have p7 : 0 ≤ (x11_1 : Int) := of_decide_eq_true (by first | (with_reducible assumption) | assumption)
      have q7 : x11_1 < (a0.size : Int) := of_decide_eq_true (by first | (with_reducible assumption) | assumption)
      have hx7 := bt_at a0 x11_1
      replace p7 := eq_true p7
      replace q7 := eq_true q7
      go_upto_region 5 with (fail)
      go_cut [23] (fun v23 wc => ∃ (kq : Nat) (x23_7 : Bool), v23 = .bool x23_7 ∧ Aside0 (tag_letters.j1 kq a0 a1 a2 (a0.size : Int) x11_1 x23_7 = some r) ∧ Aside0 (kq ≤ k1) ∧ Drawn0 w wc)
      case first =>
       have H := HC8.out
       clear HC8
       by_cases c9 : (Go.bits .or .u8 (bt a0 x11_1) 32) < 97
       ·rw [if_pos c9] at H
        have c9b0 : decide ((Go.bits .or .u8 (bt a0 x11_1) 32) < 97) = true := decide_eq_true c9
        clear c9
        (first | rw [c9b0] | rw [c9b1] | rw [c9b2] | (simp only [i64_w, i32_w]; rw [c9b0]) | skip)
        (try simp only [Bool.not_true, Bool.not_false])
        have H' := Aside0.mk H
        clear H
        go_wp2
        go_meet
        case rel => exact ⟨_, (true), (by first | rfl | (simp; done) | (simp [*]; done)), H', ⟨by have := HK1.out; first | omega | exact Nat.le_refl _⟩, by repeat (first | exact Drawn0.refl _ | apply Drawn0.step)⟩
       ·rw [if_neg c9] at H
        have c9b0 : decide ((Go.bits .or .u8 (bt a0 x11_1) 32) < 97) = false := decide_eq_false c9
        clear c9
        (first | rw [c9b0] | rw [c9b1] | rw [c9b2] | (simp only [i64_w, i32_w]; rw [c9b0]) | skip)
        (try simp only [Bool.not_true, Bool.not_false])
        have H' := Aside0.mk H
        clear H
        go_wp2
        go_meet
        case rel => exact ⟨_, (decide ((Go.bits .or .u8 (bt a0 x11_1) 32) > 122)), (by first | rfl | (simp; done) | (simp [*]; done)), H', ⟨by have := HK1.out; first | omega | exact Nat.le_refl _⟩, by repeat (first | exact Drawn0.refl _ | apply Drawn0.step)⟩
      case rest =>
       clear HC8
       try clear p2
       try clear c4
       try clear c4b0
       try clear c5
       try clear c5b0
       try clear c6
       try clear c6b0
       try clear p7
       try clear q7
       try clear hx7
       try clear c9
       try clear c9b0
       try clear c9b1
       try clear c9b2
       try clear p2
       try clear p7
       try clear q7
       obtain ⟨kq, x23_7, rfl, HA, HJ7, ⟨mc7, rfl⟩⟩ := hcut
       cases kq with
       | zero => exact absurd HA.out (by simp [tag_letters.j1])
       | succ kj7 =>
        have H := HA.out
        clear HA
        simp only [tag_letters.j1] at H
        by_cases c10 : x23_7 = true
        ·subst c10
         have H1 : (some false) = some r := by rw [if_pos rfl] at H; exact H
         clear H
         have H := H1
         clear H1
         obtain rfl := Option.some.inj H
         go_wp2
         go_ret
         exact ⟨by first | rfl | (simp; done) | (simp [*]; done), by repeat (first | exact Drawn0.refl _ | apply Drawn0.step)⟩
        ·replace c10 := Bool.eq_false_iff.mpr c10
         subst c10
         have H1 : (tag_letters.l0 kj7 a0 a1 a2 (a0.size : Int) (wrap64 (x11_1 + 1))) = some r := by rw [if_neg (show ¬ (false = true) by decide)] at H; exact H
         clear H
         have H := H1
         clear H1
         have H' := Aside0.mk H
         clear H
         go_wp2
         go_roundg kj7
         case measure => have := HK1.out; have := HJ7.out; omega
         case rel => exact ⟨(wrap64 (x11_1 + 1)), (by first | rfl | (simp; done) | (simp [*]; done)), H', ⟨by have := HK1.out; have := HJ7.out; omega⟩, by repeat (first | exact Drawn0.refl _ | apply Drawn0.step)⟩
     ·rw [if_neg c6] at H
      exact absurd H (by simp)
    ·rw [if_neg c5] at H
     exact absurd H (by simp)
   ·rw [if_neg c4] at H
    have c4b0 : decide (x11_1 < (a0.size : Int)) = false := decide_eq_false c4
    clear c4
    by_cases c11 : (a0.size : Int) ≥ a1
    ·rw [if_pos c11] at H
     have c11b0 : decide (a1 ≤ (a0.size : Int)) = true := decide_eq_true c11
     clear c11
     obtain rfl := Option.some.inj H
     go_wp2
     go_ret
     exact ⟨by first | rfl | (simp; done) | (simp [*]; done), by repeat (first | exact Drawn0.refl _ | apply Drawn0.step)⟩
    ·rw [if_neg c11] at H
     have c11b0 : decide (a1 ≤ (a0.size : Int)) = false := decide_eq_false c11
     clear c11
     obtain rfl := Option.some.inj H
     go_wp2
     go_ret
     exact ⟨by first | rfl | (simp; done) | (simp [*]; done), by repeat (first | exact Drawn0.refl _ | apply Drawn0.step)⟩
def tag_upper.g (b : UInt8) : UInt8 := if 97 ≤ b.toNat ∧ b.toNat ≤ 122 then UInt8.ofNat (b.toNat - 32) else b
def tag_upper.f (a0 : ByteArray) : Option ByteArray := if a0.size < 9223372036854775807 then some ⟨(a0.data.toList.map tag_upper.g).toArray⟩ else none
set_option maxHeartbeats 4000000 in
set_option maxRecDepth 100000 in
theorem tag_upper.calls (a0 r : ByteArray) (w : World) (h : tag_upper.f a0 = some r) :
    Calls Tryz.prog 56 #[.string a0] w fun e w' => e = .returned (.string r) ∧ Below w.heap.size w w' := by
  unfold tag_upper.f at h
  by_cases hs : a0.size < 9223372036854775807
  · rw [if_pos hs] at h
    obtain rfl := Option.some.inj h
    clear h
    have hcv : ∀ W : World, (convert 9 82 (.string a0)).run Tryz.prog W = .ok (.slice (some ⟨W.heap.size, 0, none⟩) a0.size (grownCap W a0.size 0 5)) (Lib.bytesWorld W 5 a0) := fun W => Lib.run_convert_string_bytes W 9 82 5 a0 Tryz.underlying9 Tryz.underlying82 Tryz.underlying5
    have hB0 : Below w.heap.size w (Lib.bytesWorld w 5 a0) := bytes_below (Below.refl _ _) (Nat.le_refl _) 5 a0
    have hC0 : BytesAt (Lib.bytesWorld w 5 a0) w.heap.size a0.size (tAt tag_upper.g a0.data.toList 0) := (BytesAt.conv w 5 a0).congr (fun j => tAt_old (Nat.zero_le _))
    go_enter Tryz.func56, Tryz.ntmps56
    go_wp2
    go_loopg [10] (a0.size + 1) (fun kq v10 w' => ∃ i : Nat, v10 = .int .i64 (i : Int) ∧ Aside0 (kq + i = a0.size + 1) ∧ Aside0 (i ≤ a0.size) ∧ Aside0 (BytesAt w' w.heap.size a0.size (tAt tag_upper.g a0.data.toList i)) ∧ Aside0 (Below w.heap.size w w'))
    case atStart => exact ⟨0, rfl, ⟨rfl⟩, ⟨Nat.zero_le _⟩, ⟨hC0⟩, ⟨hB0⟩⟩
    case round =>
      obtain ⟨i, rfl, HK, HI, HC, HB⟩ := hrel
      cases gk with
      | zero => exact absurd HK.out (by have := HI.out; omega)
      | succ k1 =>
        by_cases c1 : i < a0.size
        · have t1 : decide ((i : Int) < (a0.size : Int)) = true := decide_eq_true (by omega)
          obtain ⟨x, hx⟩ : ∃ x, x = a0.data.toList.getD i 0 := ⟨_, rfl⟩
          have hcell := (HC.out i c1).1
          have hfz := (HC.out i c1).2
          rw [tAt_old (Nat.le_refl _), ← hx] at hcell
          have HX := Aside0.mk hx
          clear hx
          have hw1 : IntKind.i64.wrap ((i : Int) + 1) = (i : Int) + 1 := by simp [IntKind.wrap, IntKind.bits, IntKind.signed]; omega
          have hxl := x.toNat_lt
          have HXL := Aside0.mk hxl
          clear hxl
          by_cases c2 : 97 ≤ x.toNat ∧ x.toNat ≤ 122
          · have t2 : decide ((97 : Int) ≤ (x.toNat : Int)) = true := decide_eq_true (by omega)
            have t3 : decide ((x.toNat : Int) ≤ 122) = true := decide_eq_true (by omega)
            have C2 := Aside0.mk c2
            clear c2
            go_wp2
            go_roundg k1
            case measure => omega
            case rel => exact ⟨i + 1, by go_num, ⟨by have := HK.out; omega⟩, ⟨by omega⟩, ⟨HC.out.set (fun j hj => tAt_next hj) (by rw [tAt_here, ← HX.out]; unfold tag_upper.g; rw [if_pos C2.out, UInt8.toNat_ofNat']; have := C2.out; first | omega | (simp [IntKind.wrap, IntKind.bits, IntKind.signed]; omega))⟩, ⟨HB.out.setCell (Nat.le_refl _) _⟩⟩
          · have hlow : tag_upper.g x = x := if_neg c2
            have HL := Aside0.mk hlow
            clear hlow
            by_cases c3 : 97 ≤ x.toNat
            · have t2 : decide ((97 : Int) ≤ (x.toNat : Int)) = true := decide_eq_true (by omega)
              have t3 : decide ((x.toNat : Int) ≤ 122) = false := decide_eq_false (by omega)
              clear c2 c3
              go_wp2
              go_roundg k1
              case measure => omega
              case rel => exact ⟨i + 1, by go_num, ⟨by have := HK.out; omega⟩, ⟨by omega⟩, ⟨HC.out.congr (fun j => tAt_same (by rw [← HX.out]; exact HL.out) j)⟩, ⟨HB.out⟩⟩
            · have t2 : decide ((97 : Int) ≤ (x.toNat : Int)) = false := decide_eq_false (by omega)
              clear c2 c3
              go_wp2
              go_roundg k1
              case measure => omega
              case rel => exact ⟨i + 1, by go_num, ⟨by have := HK.out; omega⟩, ⟨by omega⟩, ⟨HC.out.congr (fun j => tAt_same (by rw [← HX.out]; exact HL.out) j)⟩, ⟨HB.out⟩⟩
        · have t1 : decide ((i : Int) < (a0.size : Int)) = false := decide_eq_false (by omega)
          have hi : i = a0.size := by have := HI.out; omega
          subst hi
          have hbk := tAt_done (P := Tryz.prog) (cap := grownCap w a0.size 0 5) Tryz.underlying82 Tryz.underlying5 Tryz.underlying9 HC.out
          go_wp2
          go_ret
          exact ⟨rfl, HB.out⟩
  · rw [if_neg hs] at h; cases h
def tag_title.f (a0 : ByteArray) : Option (ByteArray) := if 0 ≤ 1 then (if 1 ≤ (a0.size : Int) then ((tag_upper.f (a0.extract 0 1)).bind fun t164 => ((tag_lower.f (a0.extract 1 a0.size)).bind fun t165 => (if t164.size + t165.size ≤ 9223372036854775807 then (some (t164 ++ t165)) else (none)))) else (none)) else (none)
def tag_title.T1 : Bool × List (List Nat × List Nat) := (true, [([], []), ([0], [0]), ([1], [1]), ([], []), ([3], [3]), ([4, 2], [4]), ([2, 5], [2, 5]), ([6, 5, 0, 1, 2, 3, 4, 5, 6], [6])])
def tag_title.B1 : List Nat := [0, 1, 3, 0, 8, 31, 63, 127]
theorem tag_title.tab1 : rtab .any (opsOf Tryz.f54 1) = tag_title.T1 := by kernel_rfl
theorem tag_title.bits1 : waitsOk tag_title.T1.2 tag_title.B1 = true := by kernel_rfl
set_option maxHeartbeats 8000000 in
set_option maxRecDepth 100000 in
theorem tag_title.calls (a0 : ByteArray) (r : ByteArray) (w : World) (h : tag_title.f a0 = some r) :
  Calls Tryz.prog 54 #[.string a0] w fun e w' => e = .returned (.string r) ∧ Below w.heap.size w w' := by
 have HB := Aside0.mk (Below.refl w.heap.size w)
 have H : (if 0 ≤ 1 then (if 1 ≤ (a0.size : Int) then ((tag_upper.f (a0.extract 0 1)).bind fun t164 => ((tag_lower.f (a0.extract 1 a0.size)).bind fun t165 => (if t164.size + t165.size ≤ 9223372036854775807 then (some (t164 ++ t165)) else (none)))) else (none)) else (none)) = some r := h
 clear h
 by_cases c2 : 0 ≤ 1
 ·rw [if_pos c2] at H
  have c2b0 := eq_true c2
  have c2b1 : decide (0 ≤ 1) = true := decide_eq_true c2
  clear c2
  by_cases c3 : 1 ≤ (a0.size : Int)
  ·rw [if_pos c3] at H
   have c3b0 := eq_true c3
   have c3b1 : decide (1 ≤ (a0.size : Int)) = true := decide_eq_true c3
   clear c3
   replace H := Option.bind_eq_some_iff.mp H
   obtain ⟨t164, A40, H⟩ := H
   try dsimp only at H
   have A4 := Aside0.mk A40
   clear A40
   have c5b0 := eq_true (of_decide_eq_true (by first | (with_reducible assumption) | assumption) : 1 ≤ (a0.size : Int))
   replace H := Option.bind_eq_some_iff.mp H
   obtain ⟨t165, A60, H⟩ := H
   try dsimp only at H
   have A6 := Aside0.mk A60
   clear A60
   by_cases c7 : t164.size + t165.size ≤ 9223372036854775807
   ·rw [if_pos c7] at H
    have c7b0 := eq_true c7
    have c7b1 : decide (t164.size + t165.size ≤ 9223372036854775807) = true := decide_eq_true c7
    try have c7b2 : (9223372036854775807 < t164.size + t165.size) = False := eq_false (Nat.not_lt.2 c7)
    (try (have c7b3 := c7b2; simp only [ByteArray.size_append, sz1_, sz2_, sz3_] at c7b3))
    obtain rfl := Option.some.inj H
    go_enter Tryz.func54, Tryz.ntmps54
    try go_wp2
    replace HB := Aside0.mk (below_drew1 HB.out)
    refine start_ (n := 8) (S := fun w' => True) (ds := []) (bmp 8 0) (by kernel_rfl) rfl rfl trivial (fun hHeld => ?_); refine with_tabW tag_title.tab1 tag_title.bits1 (fun HT_ HW_ => ?_)
    generalize w.drew = w8 at HB hHeld ⊢
    iterate 2 (refine pu_ HT_ ?_)
    refine pg_ 3 (bm 8 11) HT_ ?_
    refine pg_ 4 (bm 8 27) HT_ ?_
    refine one_ (i := 2) (N := some 5) (bmp 8 5) rfl rfl (one_of HT_.out (by kernel_rfl)) (by decide) (fun K hK => ?_)
    refine goes_ Tryz.func56 (by kernel_rfl) rfl #[.string (a0.extract 0 1)] (by rfl) rfl rfl (by (try simp only [List.map_toArray, List.map_cons, List.map_nil]); first | done | rfl | (simp only [List.length_drop, List.length_take]; rfl)) ?_
    with_reducible refine (tag_upper.calls (a0.extract 0 1) t164 _ A4.out).mono ?_
    rintro e w9 ⟨rfl, hb⟩
    refine ⟨_, rfl, ?_⟩
    replace HB := Aside0.mk (below_step hb_ hb)
    (try clear hb)
    (try clear hb2)
    (try clear hk)
    (try clear hi)
    refine hK.out _ _ trivial (fun hHeld => ?_)
    clear hK K
    refine norm_ (a' := ?_) ?_ ?_
    rotate_left
    ·show Act.put _ (some 5) _ = _
     simp only [Act.put, List.setIfInBounds_toArray, List.set_cons_zero, List.set_cons_succ, i64_w, i32_w]
     rfl
    refine one_ (i := 5) (N := some 8) (bmp 8 6) rfl rfl (one_of HT_.out (by kernel_rfl)) (by decide) (fun K hK => ?_)
    refine goes_ Tryz.func44 (by kernel_rfl) rfl #[.string (a0.extract 1 a0.size)] (by rfl) rfl rfl (by (try simp only [List.map_toArray, List.map_cons, List.map_nil]); first | done | rfl | (simp only [List.length_drop, List.length_take]; rfl)) ?_
    with_reducible refine (tag_lower.calls (a0.extract 1 a0.size) t165 _ A6.out).mono ?_
    rintro e w10 ⟨rfl, hb⟩
    refine ⟨_, rfl, ?_⟩
    replace HB := Aside0.mk (below_step hb_ hb)
    (try clear hb)
    (try clear hb2)
    (try clear hk)
    (try clear hi)
    refine hK.out _ _ trivial (fun hHeld => ?_)
    clear hK K
    refine norm_ (a' := ?_) ?_ ?_
    rotate_left
    ·show Act.put _ (some 8) _ = _
     simp only [Act.put, List.setIfInBounds_toArray, List.set_cons_zero, List.set_cons_succ, i64_w, i32_w]
     rfl
    iterate 2 (refine pu_ HT_ ?_)
    refine dg_ HT_ ?_
    try go_wp2
    go_ret
    exact ⟨by first | rfl | (simp [errW_none, errW_some] <;> rfl) | (simp [*, errW_none, errW_some] <;> rfl), by repeat (first | (with_reducible first | exact HB.out | apply below_alloc | apply pw_below_drewN | apply below_drew1) | exact HB.out)⟩
   ·rw [if_neg c7] at H
    exact absurd H (by simp)
  ·rw [if_neg c3] at H
   exact absurd H (by simp)
 ·rw [if_neg c2] at H
  exact absurd H (by simp)
end Go.Proofs.YtphjhbppjakocaaGreatDoor.PTag
namespace Go.Proofs.YtphjhbppjakocaaGreatDoor.PTag
open Go.RowKit Go.Proofs.YtphjhbppjakocaaGreatDoorW.PrintWords Go.Proofs.YtphjhbppjakocaaGreatDoorW.PrintLast Go.Proofs.YtphjhbppjakocaaGreatDoorW.PrintMore
attribute [local go_sem] max2_int min2_int max_two min_two max_three min_three max_four min_four
set_option linter.unusedVariables false
set_option linter.unusedSimpArgs false
attribute [local go_sem] setCell_drewN_ cell_put_twice_ gtr_less_
mutual
def tag_numerals.l0 : Nat → ByteArray → Int → Int → Option (Bool)
 | 0, _, _, _ => none
 | k + 1, x0, x5, x6 => if x6 < x5 then (if 0 ≤ x6 then (if x6 < (x0.size : Int) then (if (bt x0 x6) < 48 then (tag_numerals.j1 k x0 x5 x6 true) else (tag_numerals.j1 k x0 x5 x6 (decide ((bt x0 x6) > 57)))) else (none)) else (none)) else (some ((x0.size : Int) == 3))
def tag_numerals.j1 : Nat → ByteArray → Int → Int → Bool → Option (Bool)
 | 0, _, _, _, _ => none
 | k + 1, x0, x5, x6, x18 => if x18 = true then (some false) else (tag_numerals.l0 k x0 x5 (wrap64 (x6 + 1)))
end
def tag_numerals.f (k : Nat) (a0 : ByteArray) : Option (Bool) := tag_numerals.l0 k a0 (a0.size : Int) 0
theorem tag_numerals.mono_l : ∀ k, (∀ y0 y1 y2, LeO (tag_numerals.l0 k y0 y1 y2) (tag_numerals.l0 (k + 1) y0 y1 y2)) ∧ (∀ y0 y1 y2 y3, LeO (tag_numerals.j1 k y0 y1 y2 y3) (tag_numerals.j1 (k + 1) y0 y1 y2 y3))
 | 0 => ⟨fun _ _ _ r h => by simp [tag_numerals.l0] at h, fun _ _ _ _ r h => by simp [tag_numerals.j1] at h⟩
 | k + 1 => by
  obtain ⟨ih0, ih1⟩ := tag_numerals.mono_l k
  refine ⟨?_, ?_⟩
  intro y0 y1 y2; unfold tag_numerals.l0; rotate_left
  intro y0 y1 y2 y3; unfold tag_numerals.j1; rotate_left
  all_goals repeat' first
   | (with_reducible exact ih0 _ _ _)
   | (with_reducible exact ih1 _ _ _ _)
   | (with_reducible exact LeO.refl _)
   | (with_reducible exact LeO.none _)
   | (with_reducible refine LeO.ite ?_ ?_)
   | (with_reducible refine LeO.bind ?_ (fun _ => ?_))
   | exact ih0 _ _ _
   | exact ih1 _ _ _ _
   | exact LeO.none _
   | refine LeO.ite ?_ ?_
   | refine LeO.bind ?_ (fun _ => ?_)
theorem tag_numerals.mono : ∀ a0 k, LeO (tag_numerals.f k a0) (tag_numerals.f (k + 1) a0) := by
 intro a0 k
 obtain ⟨ih0, ih1⟩ := tag_numerals.mono_l k
 unfold tag_numerals.f
 repeat' first
   | (with_reducible exact ih0 _ _ _)
   | (with_reducible exact ih1 _ _ _ _)
   | (with_reducible exact LeO.refl _)
   | (with_reducible exact LeO.none _)
   | (with_reducible refine LeO.ite ?_ ?_)
   | (with_reducible refine LeO.bind ?_ (fun _ => ?_))
   | exact ih0 _ _ _
   | exact ih1 _ _ _ _
   | exact LeO.none _
   | refine LeO.ite ?_ ?_
   | refine LeO.bind ?_ (fun _ => ?_)
set_option maxHeartbeats 8000000 in
set_option maxRecDepth 100000 in
theorem tag_numerals.calls (k : Nat) (a0 : ByteArray) (r : Bool) (w : World) (h : tag_numerals.f k a0 = some r) :
  Calls Tryz.prog 83 #[.string a0] w fun e w' => e = .returned (.bool r) ∧ Drawn0 w w' := by
 have H : (tag_numerals.l0 k a0 (a0.size : Int) 0) = some r := h
 clear h
 have H' := Aside0.mk H
 clear H
 go_enter Tryz.func83, Tryz.ntmps83
 go_wp2
 go_loopg [6] k (fun kq v6 w' => ∃ (x6_1 : Int), v6 = .int .i64 x6_1 ∧ Aside0 (tag_numerals.l0 kq a0 (a0.size : Int) x6_1 = some r) ∧ Aside0 (kq ≤ k) ∧ Drawn0 w w')
 case atStart => exact ⟨(0), (by first | rfl | (simp; done) | (simp [*]; done)), H', ⟨Nat.le_refl _⟩, by repeat (first | exact Drawn0.refl _ | apply Drawn0.step)⟩
 case round =>
  clear H'
  obtain ⟨x6_1, rfl, HA, HK1, ⟨m1, rfl⟩⟩ := hrel
  cases gk with
  | zero => exact absurd HA.out (by simp [tag_numerals.l0])
  | succ k1 =>
   have H := HA.out
   clear HA
   simp only [tag_numerals.l0] at H
   by_cases c2 : x6_1 < (a0.size : Int)
   ·rw [if_pos c2] at H
    have c2b0 : decide (x6_1 < (a0.size : Int)) = true := decide_eq_true c2
    clear c2
    have HC3 := Aside0.mk H
    clear H
    go_upto_region 4 with (fail)
    go_cut [18] (fun v18 wc => ∃ (kq : Nat) (x18_2 : Bool), v18 = .bool x18_2 ∧ Aside0 (tag_numerals.j1 kq a0 (a0.size : Int) x6_1 x18_2 = some r) ∧ Aside0 (kq ≤ k1) ∧ Drawn0 w wc)
    case first =>
     have H := HC3.out
     clear HC3
     by_cases c4 : 0 ≤ x6_1
     ·rw [if_pos c4] at H
      have c4b0 : decide (0 ≤ x6_1) = true := decide_eq_true c4
      clear c4
      (first | rw [c4b0] | rw [c4b1] | rw [c4b2] | (simp only [i64_w, i32_w]; rw [c4b0]) | skip)
      (try simp only [Bool.not_true, Bool.not_false])
      by_cases c5 : x6_1 < (a0.size : Int)
      ·rw [if_pos c5] at H
       have c5b0 : decide (x6_1 < (a0.size : Int)) = true := decide_eq_true c5
       clear c5
       by_cases c7 : (bt a0 x6_1) < 48
       ·rw [if_pos c7] at H
        have c7b0 : decide ((bt a0 x6_1) < 48) = true := decide_eq_true c7
        clear c7
        have H' := Aside0.mk H
        clear H
        have p6 : 0 ≤ (x6_1 : Int) := of_decide_eq_true (by first | (with_reducible assumption) | assumption)
        have q6 : x6_1 < (a0.size : Int) := of_decide_eq_true (by first | (with_reducible assumption) | assumption)
        have hx6 := bt_at a0 x6_1
        replace p6 := eq_true p6
        replace q6 := eq_true q6
        go_wp2
        go_meet
        case rel => exact ⟨_, (true), (by first | rfl | (simp; done) | (simp [*]; done)), H', ⟨by have := HK1.out; first | omega | exact Nat.le_refl _⟩, by repeat (first | exact Drawn0.refl _ | apply Drawn0.step)⟩
       ·rw [if_neg c7] at H
        have c7b0 : decide ((bt a0 x6_1) < 48) = false := decide_eq_false c7
        clear c7
        have H' := Aside0.mk H
        clear H
        have p6 : 0 ≤ (x6_1 : Int) := of_decide_eq_true (by first | (with_reducible assumption) | assumption)
        have q6 : x6_1 < (a0.size : Int) := of_decide_eq_true (by first | (with_reducible assumption) | assumption)
        have hx6 := bt_at a0 x6_1
        replace p6 := eq_true p6
        replace q6 := eq_true q6
        have p8 : 0 ≤ (x6_1 : Int) := of_decide_eq_true (by first | (with_reducible assumption) | assumption)
        have q8 : x6_1 < (a0.size : Int) := of_decide_eq_true (by first | (with_reducible assumption) | assumption)
        have hx8 := bt_at a0 x6_1
        replace p8 := eq_true p8
        replace q8 := eq_true q8
        go_wp2
        go_meet
        case rel => exact ⟨_, (decide ((bt a0 x6_1) > 57)), (by first | rfl | (simp; done) | (simp [*]; done)), H', ⟨by have := HK1.out; first | omega | exact Nat.le_refl _⟩, by repeat (first | exact Drawn0.refl _ | apply Drawn0.step)⟩
      ·rw [if_neg c5] at H
       exact absurd H (by simp)
     ·rw [if_neg c4] at H
      exact absurd H (by simp)
    case rest =>
     clear HC3
     try clear c2
     try clear c2b0
     try clear p2
     try clear c4
     try clear c4b0
     try clear c4b1
     try clear c4b2
     try clear c5
     try clear c5b0
     try clear p6
     try clear q6
     try clear hx6
     try clear c7
     try clear c7b0
     try clear c8
     try clear p8
     try clear q8
     try clear hx8
     try clear p6
     try clear p8
     try clear q6
     try clear q8
     obtain ⟨kq, x18_2, rfl, HA, HJ2, ⟨mc2, rfl⟩⟩ := hcut
     cases kq with
     | zero => exact absurd HA.out (by simp [tag_numerals.j1])
     | succ kj2 =>
      have H := HA.out
      clear HA
      simp only [tag_numerals.j1] at H
      by_cases c9 : x18_2 = true
      ·subst c9
       have H1 : (some false) = some r := by rw [if_pos rfl] at H; exact H
       clear H
       have H := H1
       clear H1
       obtain rfl := Option.some.inj H
       go_wp2
       go_ret
       exact ⟨by first | rfl | (simp; done) | (simp [*]; done), by repeat (first | exact Drawn0.refl _ | apply Drawn0.step)⟩
      ·replace c9 := Bool.eq_false_iff.mpr c9
       subst c9
       have H1 : (tag_numerals.l0 kj2 a0 (a0.size : Int) (wrap64 (x6_1 + 1))) = some r := by rw [if_neg (show ¬ (false = true) by decide)] at H; exact H
       clear H
       have H := H1
       clear H1
       have H' := Aside0.mk H
       clear H
       go_wp2
       go_roundg kj2
       case measure => have := HK1.out; have := HJ2.out; omega
       case rel => exact ⟨(wrap64 (x6_1 + 1)), (by first | rfl | (simp; done) | (simp [*]; done)), H', ⟨by have := HK1.out; have := HJ2.out; omega⟩, by repeat (first | exact Drawn0.refl _ | apply Drawn0.step)⟩
   ·rw [if_neg c2] at H
    have c2b0 : decide (x6_1 < (a0.size : Int)) = false := decide_eq_false c2
    clear c2
    obtain rfl := Option.some.inj H
    go_wp2
    go_ret
    exact ⟨by first | rfl | (simp; done) | (simp [*]; done), by repeat (first | exact Drawn0.refl _ | apply Drawn0.step)⟩
def tag_region.f (k : Nat) (a0 : ByteArray) : Option (Bool) := (tag_letters.f k a0 2 2).bind fun t166 => (if t166 = true then (some true) else ((tag_numerals.f k a0).bind fun t167 => (some t167)))
theorem tag_region.mono : ∀ a0 k, LeO (tag_region.f k a0) (tag_region.f (k + 1) a0) := by
 intro a0 k
 unfold tag_region.f
 repeat' first
   | (with_reducible exact tag_letters.mono _ _ _ _)
   | (with_reducible exact tag_numerals.mono _ _)
   | (with_reducible exact LeO.refl _)
   | (with_reducible exact LeO.none _)
   | (with_reducible refine LeO.ite ?_ ?_)
   | (with_reducible refine LeO.bind ?_ (fun _ => ?_))
   | exact tag_letters.mono _ _ _ _
   | exact tag_numerals.mono _ _
   | exact LeO.none _
   | refine LeO.ite ?_ ?_
   | refine LeO.bind ?_ (fun _ => ?_)
set_option maxHeartbeats 8000000 in
set_option maxRecDepth 100000 in
theorem tag_region.calls (k : Nat) (a0 : ByteArray) (r : Bool) (w : World) (h : tag_region.f k a0 = some r) :
  Calls Tryz.prog 55 #[.string a0] w fun e w' => e = .returned (.bool r) ∧ Drawn0 w w' := by
 have H : ((tag_letters.f k a0 2 2).bind fun t166 => (if t166 = true then (some true) else ((tag_numerals.f k a0).bind fun t167 => (some t167)))) = some r := h
 clear h
 replace H := Option.bind_eq_some_iff.mp H
 obtain ⟨t166, A20, H⟩ := H
 try dsimp only at H
 have A2 := Aside0.mk A20
 clear A20
 by_cases c3 : t166 = true
 ·subst c3
  have H1 : (some true) = some r := by rw [if_pos rfl] at H; exact H
  clear H
  have H := H1
  clear H1
  obtain rfl := Option.some.inj H
  go_enter Tryz.func55, Tryz.ntmps55
  go_wp2_with (first | ((with_reducible refine gate_callee (f := 53) rfl ?_); refine gb_ (some 4) Tryz.func53 #[.string a0, .int .i64 2, .int .i64 2] ?_; (with_reducible refine (tag_letters.calls k a0 2 2 true _ A2.out).mono ?_); rintro e w' ⟨rfl, ⟨nd, rfl⟩⟩; refine ⟨_, rfl, ?_⟩))
  go_ret
  exact ⟨by first | rfl | (simp; done) | (simp [*]; done), by repeat (first | exact Drawn0.refl _ | apply Drawn0.step)⟩
 ·replace c3 := Bool.eq_false_iff.mpr c3
  subst c3
  have H1 : ((tag_numerals.f k a0).bind fun t167 => (some t167)) = some r := by rw [if_neg (show ¬ (false = true) by decide)] at H; exact H
  clear H
  have H := H1
  clear H1
  replace H := Option.bind_eq_some_iff.mp H
  obtain ⟨t167, A40, H⟩ := H
  try dsimp only at H
  have A4 := Aside0.mk A40
  clear A40
  obtain rfl := Option.some.inj H
  go_enter Tryz.func55, Tryz.ntmps55
  go_wp2_with (first | ((with_reducible refine gate_callee (f := 53) rfl ?_); refine gb_ (some 4) Tryz.func53 #[.string a0, .int .i64 2, .int .i64 2] ?_; (with_reducible refine (tag_letters.calls k a0 2 2 false _ A2.out).mono ?_); rintro e w' ⟨rfl, ⟨nd, rfl⟩⟩; refine ⟨_, rfl, ?_⟩) | (go_at_call 83; (with_reducible refine (tag_numerals.calls k a0 t167 _ A4.out).mono ?_); rintro e w' ⟨rfl, ⟨nd, rfl⟩⟩))
  go_ret
  exact ⟨by first | rfl | (simp; done) | (simp [*]; done), by repeat (first | exact Drawn0.refl _ | apply Drawn0.step)⟩
end Go.Proofs.YtphjhbppjakocaaGreatDoor.PTag
namespace Go.Proofs.YtphjhbppjakocaaGreatDoor.PTag
open Go.RowKit Go.Proofs.YtphjhbppjakocaaGreatDoorW.PrintWords Go.Proofs.YtphjhbppjakocaaGreatDoorW.PrintLast Go.Proofs.YtphjhbppjakocaaGreatDoorW.PrintMore
attribute [local go_sem] max2_int min2_int max_two min_two max_three min_three max_four min_four
set_option linter.unusedVariables false
set_option linter.unusedSimpArgs false
attribute [local go_sem] setCell_drewN_ cell_put_twice_ gtr_less_
mutual
def tag_signs.l0 : Nat → ByteArray → Int → Int → Int → Int → Option (Bool)
 | 0, _, _, _, _, _ => none
 | k + 1, x0, x1, x2, x10, x11 => if x11 < x10 then (if 0 ≤ x11 then (if x11 < (x0.size : Int) then (if (Go.bits .or .u8 (bt x0 x11) 32) < 97 then (if (bt x0 x11) < 48 then (tag_signs.j1 k x0 x1 x2 x10 x11 true) else (tag_signs.j1 k x0 x1 x2 x10 x11 (decide ((bt x0 x11) > 57)))) else (if (Go.bits .or .u8 (bt x0 x11) 32) > 122 then (if (bt x0 x11) < 48 then (tag_signs.j1 k x0 x1 x2 x10 x11 true) else (tag_signs.j1 k x0 x1 x2 x10 x11 (decide ((bt x0 x11) > 57)))) else (tag_signs.j1 k x0 x1 x2 x10 x11 false))) else (none)) else (none)) else (if (x0.size : Int) ≥ x1 then (some (decide ((x0.size : Int) ≤ x2))) else (some false))
def tag_signs.j1 : Nat → ByteArray → Int → Int → Int → Int → Bool → Option (Bool)
 | 0, _, _, _, _, _, _ => none
 | k + 1, x0, x1, x2, x10, x11, x35 => if x35 = true then (some false) else (tag_signs.l0 k x0 x1 x2 x10 (wrap64 (x11 + 1)))
end
def tag_signs.f (k : Nat) (a0 : ByteArray) (a1 : Int) (a2 : Int) : Option (Bool) := tag_signs.l0 k a0 a1 a2 (a0.size : Int) 0
theorem tag_signs.mono_l : ∀ k, (∀ y0 y1 y2 y3 y4, LeO (tag_signs.l0 k y0 y1 y2 y3 y4) (tag_signs.l0 (k + 1) y0 y1 y2 y3 y4)) ∧ (∀ y0 y1 y2 y3 y4 y5, LeO (tag_signs.j1 k y0 y1 y2 y3 y4 y5) (tag_signs.j1 (k + 1) y0 y1 y2 y3 y4 y5))
 | 0 => ⟨fun _ _ _ _ _ r h => by simp [tag_signs.l0] at h, fun _ _ _ _ _ _ r h => by simp [tag_signs.j1] at h⟩
 | k + 1 => by
  obtain ⟨ih0, ih1⟩ := tag_signs.mono_l k
  refine ⟨?_, ?_⟩
  intro y0 y1 y2 y3 y4; unfold tag_signs.l0; rotate_left
  intro y0 y1 y2 y3 y4 y5; unfold tag_signs.j1; rotate_left
  all_goals repeat' first
   | (with_reducible exact ih0 _ _ _ _ _)
   | (with_reducible exact ih1 _ _ _ _ _ _)
   | (with_reducible exact LeO.refl _)
   | (with_reducible exact LeO.none _)
   | (with_reducible refine LeO.ite ?_ ?_)
   | (with_reducible refine LeO.bind ?_ (fun _ => ?_))
   | exact ih0 _ _ _ _ _
   | exact ih1 _ _ _ _ _ _
   | exact LeO.none _
   | refine LeO.ite ?_ ?_
   | refine LeO.bind ?_ (fun _ => ?_)
theorem tag_signs.mono : ∀ a0 a1 a2 k, LeO (tag_signs.f k a0 a1 a2) (tag_signs.f (k + 1) a0 a1 a2) := by
 intro a0 a1 a2 k
 obtain ⟨ih0, ih1⟩ := tag_signs.mono_l k
 unfold tag_signs.f
 repeat' first
   | (with_reducible exact ih0 _ _ _ _ _)
   | (with_reducible exact ih1 _ _ _ _ _ _)
   | (with_reducible exact LeO.refl _)
   | (with_reducible exact LeO.none _)
   | (with_reducible refine LeO.ite ?_ ?_)
   | (with_reducible refine LeO.bind ?_ (fun _ => ?_))
   | exact ih0 _ _ _ _ _
   | exact ih1 _ _ _ _ _ _
   | exact LeO.none _
   | refine LeO.ite ?_ ?_
   | refine LeO.bind ?_ (fun _ => ?_)
set_option maxHeartbeats 8000000 in
set_option maxRecDepth 100000 in
theorem tag_signs.calls (k : Nat) (a0 : ByteArray) (a1 : Int) (a2 : Int) (r : Bool) (w : World) (h : tag_signs.f k a0 a1 a2 = some r) :
  Calls Tryz.prog 59 #[.string a0, .int .i64 a1, .int .i64 a2] w fun e w' => e = .returned (.bool r) ∧ Drawn0 w w' := by
 have H : (tag_signs.l0 k a0 a1 a2 (a0.size : Int) 0) = some r := h
 clear h
 have H' := Aside0.mk H
 clear H
 go_enter Tryz.func59, Tryz.ntmps59
 go_wp2
 go_loopg [11] k (fun kq v11 w' => ∃ (x11_1 : Int), v11 = .int .i64 x11_1 ∧ Aside0 (tag_signs.l0 kq a0 a1 a2 (a0.size : Int) x11_1 = some r) ∧ Aside0 (kq ≤ k) ∧ Drawn0 w w')
 case atStart => exact ⟨(0), (by first | rfl | (simp; done) | (simp [*]; done)), H', ⟨Nat.le_refl _⟩, by repeat (first | exact Drawn0.refl _ | apply Drawn0.step)⟩
 case round =>
  clear H'
  obtain ⟨x11_1, rfl, HA, HK1, ⟨m1, rfl⟩⟩ := hrel
  cases gk with
  | zero => exact absurd HA.out (by simp [tag_signs.l0])
  | succ k1 =>
   have H := HA.out
   clear HA
   simp only [tag_signs.l0] at H
   by_cases c4 : x11_1 < (a0.size : Int)
   ·rw [if_pos c4] at H
    have c4b0 : decide (x11_1 < (a0.size : Int)) = true := decide_eq_true c4
    clear c4
    by_cases c5 : 0 ≤ x11_1
    ·rw [if_pos c5] at H
     have c5b0 : decide (0 ≤ x11_1) = true := decide_eq_true c5
     clear c5
     by_cases c6 : x11_1 < (a0.size : Int)
     ·rw [if_pos c6] at H
      have c6b0 : decide (x11_1 < (a0.size : Int)) = true := decide_eq_true c6
      clear c6
      have HC8 := Aside0.mk H
      clear H
      have p7 : 0 ≤ (x11_1 : Int) := of_decide_eq_true (by first | (with_reducible assumption) | assumption)
      have q7 : x11_1 < (a0.size : Int) := of_decide_eq_true (by first | (with_reducible assumption) | assumption)
      have hx7 := bt_at a0 x11_1
      replace p7 := eq_true p7
      replace q7 := eq_true q7
      go_upto_region 5 with (fail)
      go_cut [35] (fun v35 wc => ∃ (kq : Nat) (x35_7 : Bool), v35 = .bool x35_7 ∧ Aside0 (tag_signs.j1 kq a0 a1 a2 (a0.size : Int) x11_1 x35_7 = some r) ∧ Aside0 (kq ≤ k1) ∧ Drawn0 w wc)
      case first =>
       have H := HC8.out
       clear HC8
       by_cases c9 : (Go.bits .or .u8 (bt a0 x11_1) 32) < 97
       ·rw [if_pos c9] at H
        have c9b0 : decide ((Go.bits .or .u8 (bt a0 x11_1) 32) < 97) = true := decide_eq_true c9
        clear c9
        (first | rw [c9b0] | rw [c9b1] | rw [c9b2] | (simp only [i64_w, i32_w]; rw [c9b0]) | skip)
        (try simp only [Bool.not_true, Bool.not_false])
        by_cases c11 : (bt a0 x11_1) < 48
        ·rw [if_pos c11] at H
         have c11b0 : decide ((bt a0 x11_1) < 48) = true := decide_eq_true c11
         clear c11
         have H' := Aside0.mk H
         clear H
         have p10 : 0 ≤ (x11_1 : Int) := of_decide_eq_true (by first | (with_reducible assumption) | assumption)
         have q10 : x11_1 < (a0.size : Int) := of_decide_eq_true (by first | (with_reducible assumption) | assumption)
         have hx10 := bt_at a0 x11_1
         replace p10 := eq_true p10
         replace q10 := eq_true q10
         go_wp2
         go_meet
         case rel => exact ⟨_, (true), (by first | rfl | (simp; done) | (simp [*]; done)), H', ⟨by have := HK1.out; first | omega | exact Nat.le_refl _⟩, by repeat (first | exact Drawn0.refl _ | apply Drawn0.step)⟩
        ·rw [if_neg c11] at H
         have c11b0 : decide ((bt a0 x11_1) < 48) = false := decide_eq_false c11
         clear c11
         have H' := Aside0.mk H
         clear H
         have p10 : 0 ≤ (x11_1 : Int) := of_decide_eq_true (by first | (with_reducible assumption) | assumption)
         have q10 : x11_1 < (a0.size : Int) := of_decide_eq_true (by first | (with_reducible assumption) | assumption)
         have hx10 := bt_at a0 x11_1
         replace p10 := eq_true p10
         replace q10 := eq_true q10
         have p12 : 0 ≤ (x11_1 : Int) := of_decide_eq_true (by first | (with_reducible assumption) | assumption)
         have q12 : x11_1 < (a0.size : Int) := of_decide_eq_true (by first | (with_reducible assumption) | assumption)
         have hx12 := bt_at a0 x11_1
         replace p12 := eq_true p12
         replace q12 := eq_true q12
         go_wp2
         go_meet
         case rel => exact ⟨_, (decide ((bt a0 x11_1) > 57)), (by first | rfl | (simp; done) | (simp [*]; done)), H', ⟨by have := HK1.out; first | omega | exact Nat.le_refl _⟩, by repeat (first | exact Drawn0.refl _ | apply Drawn0.step)⟩
       ·rw [if_neg c9] at H
        have c9b0 : decide ((Go.bits .or .u8 (bt a0 x11_1) 32) < 97) = false := decide_eq_false c9
        clear c9
        (first | rw [c9b0] | rw [c9b1] | rw [c9b2] | (simp only [i64_w, i32_w]; rw [c9b0]) | skip)
        (try simp only [Bool.not_true, Bool.not_false])
        by_cases c13 : (Go.bits .or .u8 (bt a0 x11_1) 32) > 122
        ·rw [if_pos c13] at H
         have c13b0 : decide (122 < (Go.bits .or .u8 (bt a0 x11_1) 32)) = true := decide_eq_true c13
         clear c13
         by_cases c15 : (bt a0 x11_1) < 48
         ·rw [if_pos c15] at H
          have c15b0 : decide ((bt a0 x11_1) < 48) = true := decide_eq_true c15
          clear c15
          have H' := Aside0.mk H
          clear H
          have p14 : 0 ≤ (x11_1 : Int) := of_decide_eq_true (by first | (with_reducible assumption) | assumption)
          have q14 : x11_1 < (a0.size : Int) := of_decide_eq_true (by first | (with_reducible assumption) | assumption)
          have hx14 := bt_at a0 x11_1
          replace p14 := eq_true p14
          replace q14 := eq_true q14
          go_wp2
          go_meet
          case rel => exact ⟨_, (true), (by first | rfl | (simp; done) | (simp [*]; done)), H', ⟨by have := HK1.out; first | omega | exact Nat.le_refl _⟩, by repeat (first | exact Drawn0.refl _ | apply Drawn0.step)⟩
         ·rw [if_neg c15] at H
          have c15b0 : decide ((bt a0 x11_1) < 48) = false := decide_eq_false c15
          clear c15
          have H' := Aside0.mk H
          clear H
          have p14 : 0 ≤ (x11_1 : Int) := of_decide_eq_true (by first | (with_reducible assumption) | assumption)
          have q14 : x11_1 < (a0.size : Int) := of_decide_eq_true (by first | (with_reducible assumption) | assumption)
          have hx14 := bt_at a0 x11_1
          replace p14 := eq_true p14
          replace q14 := eq_true q14
          have p16 : 0 ≤ (x11_1 : Int) := of_decide_eq_true (by first | (with_reducible assumption) | assumption)
          have q16 : x11_1 < (a0.size : Int) := of_decide_eq_true (by first | (with_reducible assumption) | assumption)
          have hx16 := bt_at a0 x11_1
          replace p16 := eq_true p16
          replace q16 := eq_true q16
          go_wp2
          go_meet
          case rel => exact ⟨_, (decide ((bt a0 x11_1) > 57)), (by first | rfl | (simp; done) | (simp [*]; done)), H', ⟨by have := HK1.out; first | omega | exact Nat.le_refl _⟩, by repeat (first | exact Drawn0.refl _ | apply Drawn0.step)⟩
        ·rw [if_neg c13] at H
         have c13b0 : decide (122 < (Go.bits .or .u8 (bt a0 x11_1) 32)) = false := decide_eq_false c13
         clear c13
         have H' := Aside0.mk H
         clear H
         go_wp2
         go_meet
         case rel => exact ⟨_, (false), (by first | rfl | (simp; done) | (simp [*]; done)), H', ⟨by have := HK1.out; first | omega | exact Nat.le_refl _⟩, by repeat (first | exact Drawn0.refl _ | apply Drawn0.step)⟩
      case rest =>
       clear HC8
       clear c4b0 c5b0 c6b0 p7 q7 hx7
       obtain ⟨kq, x35_7, rfl, HA, HJ7, ⟨mc7, rfl⟩⟩ := hcut
       cases kq with
       | zero => exact absurd HA.out (by simp [tag_signs.j1])
       | succ kj7 =>
        have H := HA.out
        clear HA
        simp only [tag_signs.j1] at H
        by_cases c17 : x35_7 = true
        ·subst c17
         have H1 : (some false) = some r := by rw [if_pos rfl] at H; exact H
         clear H
         have H := H1
         clear H1
         obtain rfl := Option.some.inj H
         go_wp2
         go_ret
         exact ⟨by first | rfl | (simp; done) | (simp [*]; done), by repeat (first | exact Drawn0.refl _ | apply Drawn0.step)⟩
        ·replace c17 := Bool.eq_false_iff.mpr c17
         subst c17
         have H1 : (tag_signs.l0 kj7 a0 a1 a2 (a0.size : Int) (wrap64 (x11_1 + 1))) = some r := by rw [if_neg (show ¬ (false = true) by decide)] at H; exact H
         clear H
         have H := H1
         clear H1
         have H' := Aside0.mk H
         clear H
         go_wp2
         go_roundg kj7
         case measure => have := HK1.out; have := HJ7.out; omega
         case rel => exact ⟨(wrap64 (x11_1 + 1)), (by first | rfl | (simp; done) | (simp [*]; done)), H', ⟨by have := HK1.out; have := HJ7.out; omega⟩, by repeat (first | exact Drawn0.refl _ | apply Drawn0.step)⟩
     ·rw [if_neg c6] at H
      exact absurd H (by simp)
    ·rw [if_neg c5] at H
     exact absurd H (by simp)
   ·rw [if_neg c4] at H
    have c4b0 : decide (x11_1 < (a0.size : Int)) = false := decide_eq_false c4
    clear c4
    by_cases c18 : (a0.size : Int) ≥ a1
    ·rw [if_pos c18] at H
     have c18b0 : decide (a1 ≤ (a0.size : Int)) = true := decide_eq_true c18
     clear c18
     obtain rfl := Option.some.inj H
     go_wp2
     go_ret
     exact ⟨by first | rfl | (simp; done) | (simp [*]; done), by repeat (first | exact Drawn0.refl _ | apply Drawn0.step)⟩
    ·rw [if_neg c18] at H
     have c18b0 : decide (a1 ≤ (a0.size : Int)) = false := decide_eq_false c18
     clear c18
     obtain rfl := Option.some.inj H
     go_wp2
     go_ret
     exact ⟨by first | rfl | (simp; done) | (simp [*]; done), by repeat (first | exact Drawn0.refl _ | apply Drawn0.step)⟩
def tag_variant.f (k : Nat) (a0 : ByteArray) : Option (Bool) := (tag_signs.f k a0 5 8).bind fun t168 => (if t168 = true then (some true) else ((tag_signs.f k a0 4 4).bind fun t169 => (if t169 = true then (if 0 < (a0.size : Int) then (if (bt a0 0) ≥ 48 then (some (decide ((bt a0 0) ≤ 57))) else (some false)) else (none)) else (some false))))
theorem tag_variant.mono : ∀ a0 k, LeO (tag_variant.f k a0) (tag_variant.f (k + 1) a0) := by
 intro a0 k
 unfold tag_variant.f
 repeat' first
   | (with_reducible exact tag_signs.mono _ _ _ _)
   | (with_reducible exact LeO.refl _)
   | (with_reducible exact LeO.none _)
   | (with_reducible refine LeO.ite ?_ ?_)
   | (with_reducible refine LeO.bind ?_ (fun _ => ?_))
   | exact tag_signs.mono _ _ _ _
   | exact LeO.none _
   | refine LeO.ite ?_ ?_
   | refine LeO.bind ?_ (fun _ => ?_)
set_option maxHeartbeats 8000000 in
set_option maxRecDepth 100000 in
theorem tag_variant.calls (k : Nat) (a0 : ByteArray) (r : Bool) (w : World) (h : tag_variant.f k a0 = some r) :
  Calls Tryz.prog 57 #[.string a0] w fun e w' => e = .returned (.bool r) ∧ Drawn0 w w' := by
 have H : ((tag_signs.f k a0 5 8).bind fun t168 => (if t168 = true then (some true) else ((tag_signs.f k a0 4 4).bind fun t169 => (if t169 = true then (if 0 < (a0.size : Int) then (if (bt a0 0) ≥ 48 then (some (decide ((bt a0 0) ≤ 57))) else (some false)) else (none)) else (some false))))) = some r := h
 clear h
 replace H := Option.bind_eq_some_iff.mp H
 obtain ⟨t168, A20, H⟩ := H
 try dsimp only at H
 have A2 := Aside0.mk A20
 clear A20
 by_cases c3 : t168 = true
 ·subst c3
  have H1 : (some true) = some r := by rw [if_pos rfl] at H; exact H
  clear H
  have H := H1
  clear H1
  obtain rfl := Option.some.inj H
  go_enter Tryz.func57, Tryz.ntmps57
  go_wp2_with (first | ((with_reducible refine gate_callee (f := 59) rfl ?_); refine gb_ (some 4) Tryz.func59 #[.string a0, .int .i64 5, .int .i64 8] ?_; (with_reducible refine (tag_signs.calls k a0 5 8 true _ A2.out).mono ?_); rintro e w' ⟨rfl, ⟨nd, rfl⟩⟩; refine ⟨_, rfl, ?_⟩))
  go_ret
  exact ⟨by first | rfl | (simp; done) | (simp [*]; done), by repeat (first | exact Drawn0.refl _ | apply Drawn0.step)⟩
 ·replace c3 := Bool.eq_false_iff.mpr c3
  subst c3
  have H1 : ((tag_signs.f k a0 4 4).bind fun t169 => (if t169 = true then (if 0 < (a0.size : Int) then (if (bt a0 0) ≥ 48 then (some (decide ((bt a0 0) ≤ 57))) else (some false)) else (none)) else (some false))) = some r := by rw [if_neg (show ¬ (false = true) by decide)] at H; exact H
  clear H
  have H := H1
  clear H1
  replace H := Option.bind_eq_some_iff.mp H
  obtain ⟨t169, A40, H⟩ := H
  try dsimp only at H
  have A4 := Aside0.mk A40
  clear A40
  by_cases c5 : t169 = true
  ·subst c5
   have H1 : (if 0 < (a0.size : Int) then (if (bt a0 0) ≥ 48 then (some (decide ((bt a0 0) ≤ 57))) else (some false)) else (none)) = some r := by rw [if_pos rfl] at H; exact H
   clear H
   have H := H1
   clear H1
   by_cases c6 : 0 < (a0.size : Int)
   ·rw [if_pos c6] at H
    have c6b0 : decide (0 < (a0.size : Int)) = true := decide_eq_true c6
    have c6b1 : decide (0 < a0.size) = true := decide_eq_true (by omega)
    clear c6
    by_cases c8 : (bt a0 0) ≥ 48
    ·rw [if_pos c8] at H
     have c8b0 : decide (48 ≤ (bt a0 0)) = true := decide_eq_true c8
     clear c8
     obtain rfl := Option.some.inj H
     go_enter Tryz.func57, Tryz.ntmps57
     go_wp2_with (first | ((with_reducible refine gate_callee (f := 59) rfl ?_); refine gb_ (some 4) Tryz.func59 #[.string a0, .int .i64 5, .int .i64 8] ?_; (with_reducible refine (tag_signs.calls k a0 5 8 false _ A2.out).mono ?_); rintro e w' ⟨rfl, ⟨nd, rfl⟩⟩; refine ⟨_, rfl, ?_⟩) | (go_at_call 59; (with_reducible refine (tag_signs.calls k a0 4 4 true _ A4.out).mono ?_); rintro e w' ⟨rfl, ⟨nd, rfl⟩⟩; have p7 : 0 ≤ (0 : Int) := (by omega); have q7 : 0 < a0.size := (by have : (0 : Int) < (a0.size : Int) := of_decide_eq_true (by first | (with_reducible assumption) | assumption); omega); have hx7 : ∀ h : 0 < a0.size, ((a0[0]'h).toNat : Int) = bt a0 0 := bt_at a0 0; clear p7; have qi7 : (0 < (a0.size : Int)) = True := eq_true (of_decide_eq_true (by first | (with_reducible assumption) | assumption)); replace q7 := eq_true q7; have p9 : 0 ≤ (0 : Int) := (by omega); have q9 : 0 < a0.size := (by have : (0 : Int) < (a0.size : Int) := of_decide_eq_true (by first | (with_reducible assumption) | assumption); omega); have hx9 : ∀ h : 0 < a0.size, ((a0[0]'h).toNat : Int) = bt a0 0 := bt_at a0 0; clear p9; have qi9 : (0 < (a0.size : Int)) = True := eq_true (of_decide_eq_true (by first | (with_reducible assumption) | assumption)); replace q9 := eq_true q9))
     go_ret
     exact ⟨by first | rfl | (simp; done) | (simp [*]; done), by repeat (first | exact Drawn0.refl _ | apply Drawn0.step)⟩
    ·rw [if_neg c8] at H
     have c8b0 : decide (48 ≤ (bt a0 0)) = false := decide_eq_false c8
     clear c8
     obtain rfl := Option.some.inj H
     go_enter Tryz.func57, Tryz.ntmps57
     go_wp2_with (first | ((with_reducible refine gate_callee (f := 59) rfl ?_); refine gb_ (some 4) Tryz.func59 #[.string a0, .int .i64 5, .int .i64 8] ?_; (with_reducible refine (tag_signs.calls k a0 5 8 false _ A2.out).mono ?_); rintro e w' ⟨rfl, ⟨nd, rfl⟩⟩; refine ⟨_, rfl, ?_⟩) | (go_at_call 59; (with_reducible refine (tag_signs.calls k a0 4 4 true _ A4.out).mono ?_); rintro e w' ⟨rfl, ⟨nd, rfl⟩⟩; have p7 : 0 ≤ (0 : Int) := (by omega); have q7 : 0 < a0.size := (by have : (0 : Int) < (a0.size : Int) := of_decide_eq_true (by first | (with_reducible assumption) | assumption); omega); have hx7 : ∀ h : 0 < a0.size, ((a0[0]'h).toNat : Int) = bt a0 0 := bt_at a0 0; clear p7; have qi7 : (0 < (a0.size : Int)) = True := eq_true (of_decide_eq_true (by first | (with_reducible assumption) | assumption)); replace q7 := eq_true q7))
     go_ret
     exact ⟨by first | rfl | (simp; done) | (simp [*]; done), by repeat (first | exact Drawn0.refl _ | apply Drawn0.step)⟩
   ·rw [if_neg c6] at H
    exact absurd H (by simp)
  ·replace c5 := Bool.eq_false_iff.mpr c5
   subst c5
   have H1 : (some false) = some r := by rw [if_neg (show ¬ (false = true) by decide)] at H; exact H
   clear H
   have H := H1
   clear H1
   obtain rfl := Option.some.inj H
   go_enter Tryz.func57, Tryz.ntmps57
   go_wp2_with (first | ((with_reducible refine gate_callee (f := 59) rfl ?_); refine gb_ (some 4) Tryz.func59 #[.string a0, .int .i64 5, .int .i64 8] ?_; (with_reducible refine (tag_signs.calls k a0 5 8 false _ A2.out).mono ?_); rintro e w' ⟨rfl, ⟨nd, rfl⟩⟩; refine ⟨_, rfl, ?_⟩) | (go_at_call 59; (with_reducible refine (tag_signs.calls k a0 4 4 false _ A4.out).mono ?_); rintro e w' ⟨rfl, ⟨nd, rfl⟩⟩))
   go_ret
   exact ⟨by first | rfl | (simp; done) | (simp [*]; done), by repeat (first | exact Drawn0.refl _ | apply Drawn0.step)⟩
end Go.Proofs.YtphjhbppjakocaaGreatDoor.PTag
