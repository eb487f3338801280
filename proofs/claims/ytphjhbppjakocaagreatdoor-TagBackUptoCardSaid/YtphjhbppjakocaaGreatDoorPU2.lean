/- Printed by a program (the kit's print.py with changes of this session) out of Lean's own print of the program: functions of the program as plain Lean functions, and that each call comes to what they say; conditions: those that each theorem states. Not trusted: Lean checks it. -/
import Derived.Test.YtphjhbppjakocaaGreatDoorPU0
import Derived.Test.YtphjhbppjakocaaGreatDoorBrief
import Derived.Test.YtphjhbppjakocaaGreatDoorPU8
namespace Go.Proofs.YtphjhbppjakocaaGreatDoor.PTag
open Go.RowKit Go.Proofs.YtphjhbppjakocaaGreatDoorW.PrintWords Go.Proofs.YtphjhbppjakocaaGreatDoorW.PrintLast Go.Proofs.YtphjhbppjakocaaGreatDoorW.PrintMore
attribute [local go_sem] max2_int min2_int max_two min_two max_three min_three max_four min_four
set_option linter.unusedVariables false
set_option linter.unusedSimpArgs false
attribute [local go_sem] setCell_drewN_ cell_put_twice_ gtr_less_
def idiomref07_letter.f (a0 : Int) : Option (Bool) := if a0 ≥ 97 then (if a0 ≤ 122 then (some true) else (if a0 ≥ 65 then (some (decide (a0 ≤ 90))) else (some false))) else (if a0 ≥ 65 then (some (decide (a0 ≤ 90))) else (some false))
set_option maxHeartbeats 8000000 in
set_option maxRecDepth 100000 in
theorem idiomref07_letter.calls (a0 : Int) (r : Bool) (w : World) (h : idiomref07_letter.f a0 = some r) :
  Calls Tryz.prog 66 #[.int .u8 a0] w fun e w' => e = .returned (.bool r) ∧ Drawn0 w w' := by
 have H : (if a0 ≥ 97 then (if a0 ≤ 122 then (some true) else (if a0 ≥ 65 then (some (decide (a0 ≤ 90))) else (some false))) else (if a0 ≥ 65 then (some (decide (a0 ≤ 90))) else (some false))) = some r := h
 clear h
 by_cases c2 : a0 ≥ 97
 ·rw [if_pos c2] at H
  have c2b0 : decide (97 ≤ a0) = true := decide_eq_true c2
  clear c2
  by_cases c3 : a0 ≤ 122
  ·rw [if_pos c3] at H
   have c3b0 : decide (a0 ≤ 122) = true := decide_eq_true c3
   clear c3
   obtain rfl := Option.some.inj H
   go_enter Tryz.func66, Tryz.ntmps66
   go_wp2
   go_ret
   exact ⟨by first | rfl | (simp; done) | (simp [*]; done), by repeat (first | exact Drawn0.refl _ | apply Drawn0.step)⟩
  ·rw [if_neg c3] at H
   have c3b0 : decide (a0 ≤ 122) = false := decide_eq_false c3
   clear c3
   by_cases c4 : a0 ≥ 65
   ·rw [if_pos c4] at H
    have c4b0 : decide (65 ≤ a0) = true := decide_eq_true c4
    clear c4
    obtain rfl := Option.some.inj H
    go_enter Tryz.func66, Tryz.ntmps66
    go_wp2
    go_ret
    exact ⟨by first | rfl | (simp; done) | (simp [*]; done), by repeat (first | exact Drawn0.refl _ | apply Drawn0.step)⟩
   ·rw [if_neg c4] at H
    have c4b0 : decide (65 ≤ a0) = false := decide_eq_false c4
    clear c4
    obtain rfl := Option.some.inj H
    go_enter Tryz.func66, Tryz.ntmps66
    go_wp2
    go_ret
    exact ⟨by first | rfl | (simp; done) | (simp [*]; done), by repeat (first | exact Drawn0.refl _ | apply Drawn0.step)⟩
 ·rw [if_neg c2] at H
  have c2b0 : decide (97 ≤ a0) = false := decide_eq_false c2
  clear c2
  by_cases c5 : a0 ≥ 65
  ·rw [if_pos c5] at H
   have c5b0 : decide (65 ≤ a0) = true := decide_eq_true c5
   clear c5
   obtain rfl := Option.some.inj H
   go_enter Tryz.func66, Tryz.ntmps66
   go_wp2
   go_ret
   exact ⟨by first | rfl | (simp; done) | (simp [*]; done), by repeat (first | exact Drawn0.refl _ | apply Drawn0.step)⟩
  ·rw [if_neg c5] at H
   have c5b0 : decide (65 ≤ a0) = false := decide_eq_false c5
   clear c5
   obtain rfl := Option.some.inj H
   go_enter Tryz.func66, Tryz.ntmps66
   go_wp2
   go_ret
   exact ⟨by first | rfl | (simp; done) | (simp [*]; done), by repeat (first | exact Drawn0.refl _ | apply Drawn0.step)⟩
def idiomref07_letters.l0 : Nat → ByteArray → Int → Int → Option (Bool)
 | 0, _, _, _ => none
 | k + 1, x0, x1, x5 => if x5 < (x0.size : Int) then (if 0 ≤ x5 then ((idiomref07_letter.f (bt x0 x5)).bind fun t101 => (if t101 = true then (idiomref07_letters.l0 k x0 x1 (wrap64 (x5 + 1))) else (some false))) else (none)) else (some ((x0.size : Int) == x1))
def idiomref07_letters.f (k : Nat) (a0 : ByteArray) (a1 : Int) : Option (Bool) := idiomref07_letters.l0 k a0 a1 0
theorem idiomref07_letters.mono_l : ∀ k, (∀ y0 y1 y2, LeO (idiomref07_letters.l0 k y0 y1 y2) (idiomref07_letters.l0 (k + 1) y0 y1 y2))
 | 0 => fun _ _ _ r h => by simp [idiomref07_letters.l0] at h
 | k + 1 => by
  have ih0 := idiomref07_letters.mono_l k
  ·intro y0 y1 y2
   unfold idiomref07_letters.l0
   repeat' first
   | (with_reducible exact ih0 _ _ _)
   | (with_reducible exact LeO.refl _)
   | (with_reducible exact LeO.none _)
   | (with_reducible refine LeO.ite ?_ ?_)
   | (with_reducible refine LeO.bind ?_ (fun _ => ?_))
   | exact ih0 _ _ _
   | exact LeO.none _
   | refine LeO.ite ?_ ?_
   | refine LeO.bind ?_ (fun _ => ?_)
theorem idiomref07_letters.mono : ∀ a0 a1 k, LeO (idiomref07_letters.f k a0 a1) (idiomref07_letters.f (k + 1) a0 a1) := by
 intro a0 a1 k
 have ih0 := idiomref07_letters.mono_l k
 unfold idiomref07_letters.f
 repeat' first
   | (with_reducible exact ih0 _ _ _)
   | (with_reducible exact LeO.refl _)
   | (with_reducible exact LeO.none _)
   | (with_reducible refine LeO.ite ?_ ?_)
   | (with_reducible refine LeO.bind ?_ (fun _ => ?_))
   | exact ih0 _ _ _
   | exact LeO.none _
   | refine LeO.ite ?_ ?_
   | refine LeO.bind ?_ (fun _ => ?_)
set_option maxHeartbeats 8000000 in
set_option maxRecDepth 100000 in
theorem idiomref07_letters.calls (k : Nat) (a0 : ByteArray) (a1 : Int) (r : Bool) (w : World) (h : idiomref07_letters.f k a0 a1 = some r) :
  Calls Tryz.prog 64 #[.string a0, .int .i64 a1] w fun e w' => e = .returned (.bool r) ∧ Drawn0 w w' := by
 have H : (idiomref07_letters.l0 k a0 a1 0) = some r := h
 clear h
 have H' := Aside0.mk H
 clear H
 go_enter Tryz.func64, Tryz.ntmps64
 go_wp2
 go_loopg [5] k (fun kq v5 w' => ∃ (x5_1 : Int), v5 = .int .i64 x5_1 ∧ Aside0 (idiomref07_letters.l0 kq a0 a1 x5_1 = some r) ∧ Aside0 (kq ≤ k) ∧ Drawn0 w w')
 case atStart => exact ⟨(0), (by first | rfl | (simp; done) | (simp [*]; done)), H', ⟨Nat.le_refl _⟩, by repeat (first | exact Drawn0.refl _ | apply Drawn0.step)⟩
 case round =>
  clear H'
  try clear p2
  obtain ⟨x5_1, rfl, HA, HK1, ⟨m1, rfl⟩⟩ := hrel
  cases gk with
  | zero => exact absurd HA.out (by simp [idiomref07_letters.l0])
  | succ k1 =>
   have H := HA.out
   clear HA
   simp only [idiomref07_letters.l0] at H
   by_cases c3 : x5_1 < (a0.size : Int)
   ·rw [if_pos c3] at H
    have c3b0 : decide (x5_1 < (a0.size : Int)) = true := decide_eq_true c3
    clear c3
    by_cases c4 : 0 ≤ x5_1
    ·rw [if_pos c4] at H
     have c4b0 : decide (0 ≤ x5_1) = true := decide_eq_true c4
     clear c4
     replace H := Option.bind_eq_some_iff.mp H
     obtain ⟨t101, A60, H⟩ := H
     try dsimp only at H
     have A6 := Aside0.mk A60
     clear A60
     by_cases c7 : t101 = true
     ·subst c7
      have H1 : (idiomref07_letters.l0 k1 a0 a1 (wrap64 (x5_1 + 1))) = some r := by rw [if_pos rfl] at H; exact H
      clear H
      have H := H1
      clear H1
      have H' := Aside0.mk H
      clear H
      have p5 : 0 ≤ (x5_1 : Int) := of_decide_eq_true (by first | (with_reducible assumption) | assumption)
      have q5 : x5_1 < (a0.size : Int) := of_decide_eq_true (by first | (with_reducible assumption) | assumption)
      have hx5 := bt_at a0 x5_1
      replace p5 := eq_true p5
      replace q5 := eq_true q5
      go_wp2_with (first | ((with_reducible refine gate_callee (f := 66) rfl ?_); refine gb_ (some 15) Tryz.func66 #[.int .u8 (bt a0 x5_1)] ?_; (with_reducible refine (idiomref07_letter.calls (bt a0 x5_1) true _ A6.out).mono ?_); rintro e w' ⟨rfl, ⟨nd, rfl⟩⟩; refine ⟨_, rfl, ?_⟩))
      go_roundg k1
      case measure => have := HK1.out; omega
      case rel => exact ⟨(wrap64 (x5_1 + 1)), (by first | rfl | (simp; done) | (simp [*]; done)), H', ⟨by have := HK1.out; omega⟩, by repeat (first | exact Drawn0.refl _ | apply Drawn0.step)⟩
     ·replace c7 := Bool.eq_false_iff.mpr c7
      subst c7
      have H1 : (some false) = some r := by rw [if_neg (show ¬ (false = true) by decide)] at H; exact H
      clear H
      have H := H1
      clear H1
      obtain rfl := Option.some.inj H
      have p5 : 0 ≤ (x5_1 : Int) := of_decide_eq_true (by first | (with_reducible assumption) | assumption)
      have q5 : x5_1 < (a0.size : Int) := of_decide_eq_true (by first | (with_reducible assumption) | assumption)
      have hx5 := bt_at a0 x5_1
      replace p5 := eq_true p5
      replace q5 := eq_true q5
      go_wp2_with (first | ((with_reducible refine gate_callee (f := 66) rfl ?_); refine gb_ (some 15) Tryz.func66 #[.int .u8 (bt a0 x5_1)] ?_; (with_reducible refine (idiomref07_letter.calls (bt a0 x5_1) false _ A6.out).mono ?_); rintro e w' ⟨rfl, ⟨nd, rfl⟩⟩; refine ⟨_, rfl, ?_⟩))
      go_ret
      exact ⟨by first | rfl | (simp; done) | (simp [*]; done), by repeat (first | exact Drawn0.refl _ | apply Drawn0.step)⟩
    ·rw [if_neg c4] at H
     exact absurd H (by simp)
   ·rw [if_neg c3] at H
    have c3b0 : decide (x5_1 < (a0.size : Int)) = false := decide_eq_false c3
    clear c3
    obtain rfl := Option.some.inj H
    go_wp2
    go_ret
    exact ⟨by first | rfl | (simp; done) | (simp [*]; done), by repeat (first | exact Drawn0.refl _ | apply Drawn0.step)⟩
def idiomref07_lang.f (k : Nat) (a0 : ByteArray) : Option (Bool) := (idiomref07_letters.f k a0 2).bind fun t102 => (if t102 = true then (some true) else ((idiomref07_letters.f k a0 3).bind fun t103 => (some t103)))
theorem idiomref07_lang.mono : ∀ a0 k, LeO (idiomref07_lang.f k a0) (idiomref07_lang.f (k + 1) a0) := by
 intro a0 k
 unfold idiomref07_lang.f
 repeat' first
   | (with_reducible exact idiomref07_letters.mono _ _ _)
   | (with_reducible exact LeO.refl _)
   | (with_reducible exact LeO.none _)
   | (with_reducible refine LeO.ite ?_ ?_)
   | (with_reducible refine LeO.bind ?_ (fun _ => ?_))
   | exact idiomref07_letters.mono _ _ _
   | exact LeO.none _
   | refine LeO.ite ?_ ?_
   | refine LeO.bind ?_ (fun _ => ?_)
set_option maxHeartbeats 8000000 in
set_option maxRecDepth 100000 in
theorem idiomref07_lang.calls (k : Nat) (a0 : ByteArray) (r : Bool) (w : World) (h : idiomref07_lang.f k a0 = some r) :
  Calls Tryz.prog 28 #[.string a0] w fun e w' => e = .returned (.bool r) ∧ Drawn0 w w' := by
 have H : ((idiomref07_letters.f k a0 2).bind fun t102 => (if t102 = true then (some true) else ((idiomref07_letters.f k a0 3).bind fun t103 => (some t103)))) = some r := h
 clear h
 replace H := Option.bind_eq_some_iff.mp H
 obtain ⟨t102, A20, H⟩ := H
 try dsimp only at H
 have A2 := Aside0.mk A20
 clear A20
 by_cases c3 : t102 = true
 ·subst c3
  have H1 : (some true) = some r := by rw [if_pos rfl] at H; exact H
  clear H
  have H := H1
  clear H1
  obtain rfl := Option.some.inj H
  go_enter Tryz.func28, Tryz.ntmps28
  go_wp2_with (first | ((with_reducible refine gate_callee (f := 64) rfl ?_); refine gb_ (some 4) Tryz.func64 #[.string a0, .int .i64 2] ?_; (with_reducible refine (idiomref07_letters.calls k a0 2 true _ A2.out).mono ?_); rintro e w' ⟨rfl, ⟨nd, rfl⟩⟩; refine ⟨_, rfl, ?_⟩))
  go_ret
  exact ⟨by first | rfl | (simp; done) | (simp [*]; done), by repeat (first | exact Drawn0.refl _ | apply Drawn0.step)⟩
 ·replace c3 := Bool.eq_false_iff.mpr c3
  subst c3
  have H1 : ((idiomref07_letters.f k a0 3).bind fun t103 => (some t103)) = some r := by rw [if_neg (show ¬ (false = true) by decide)] at H; exact H
  clear H
  have H := H1
  clear H1
  replace H := Option.bind_eq_some_iff.mp H
  obtain ⟨t103, A40, H⟩ := H
  try dsimp only at H
  have A4 := Aside0.mk A40
  clear A40
  obtain rfl := Option.some.inj H
  go_enter Tryz.func28, Tryz.ntmps28
  go_wp2_with (first | ((with_reducible refine gate_callee (f := 64) rfl ?_); refine gb_ (some 4) Tryz.func64 #[.string a0, .int .i64 2] ?_; (with_reducible refine (idiomref07_letters.calls k a0 2 false _ A2.out).mono ?_); rintro e w' ⟨rfl, ⟨nd, rfl⟩⟩; refine ⟨_, rfl, ?_⟩) | (go_at_call 64; (with_reducible refine (idiomref07_letters.calls k a0 3 t103 _ A4.out).mono ?_); rintro e w' ⟨rfl, ⟨nd, rfl⟩⟩))
  go_ret
  exact ⟨by first | rfl | (simp; done) | (simp [*]; done), by repeat (first | exact Drawn0.refl _ | apply Drawn0.step)⟩
def idiomref07_Small.g (b : UInt8) : UInt8 := if 65 ≤ b.toNat ∧ b.toNat ≤ 90 then UInt8.ofNat (b.toNat + 32) else b
def idiomref07_Small.f (a0 : ByteArray) : Option ByteArray := if a0.size < 9223372036854775807 then some ⟨(a0.data.toList.map idiomref07_Small.g).toArray⟩ else none
set_option maxHeartbeats 4000000 in
set_option maxRecDepth 100000 in
theorem idiomref07_Small.calls (a0 r : ByteArray) (w : World) (h : idiomref07_Small.f a0 = some r) :
    Calls Tryz.prog 29 #[.string a0] w fun e w' => e = .returned (.string r) ∧ Below w.heap.size w w' := by
  unfold idiomref07_Small.f at h
  by_cases hs : a0.size < 9223372036854775807
  · rw [if_pos hs] at h
    obtain rfl := Option.some.inj h
    clear h
    have hcv : ∀ W : World, (convert 9 82 (.string a0)).run Tryz.prog W = .ok (.slice (some ⟨W.heap.size, 0, none⟩) a0.size (grownCap W a0.size 0 5)) (Lib.bytesWorld W 5 a0) := fun W => Lib.run_convert_string_bytes W 9 82 5 a0 Tryz.underlying9 Tryz.underlying82 Tryz.underlying5
    have hB0 : Below w.heap.size w (Lib.bytesWorld w 5 a0) := bytes_below (Below.refl _ _) (Nat.le_refl _) 5 a0
    have hC0 : BytesAt (Lib.bytesWorld w 5 a0) w.heap.size a0.size (tAt idiomref07_Small.g a0.data.toList 0) := (BytesAt.conv w 5 a0).congr (fun j => tAt_old (Nat.zero_le _))
    go_enter Tryz.func29, Tryz.ntmps29
    go_wp2
    go_loopg [4] (a0.size + 1) (fun kq v4 w' => ∃ i : Nat, v4 = .int .i64 (i : Int) ∧ Aside0 (kq + i = a0.size + 1) ∧ Aside0 (i ≤ a0.size) ∧ Aside0 (BytesAt w' w.heap.size a0.size (tAt idiomref07_Small.g a0.data.toList i)) ∧ Aside0 (Below w.heap.size w w'))
    case atStart => exact ⟨0, rfl, ⟨rfl⟩, ⟨Nat.zero_le _⟩, ⟨hC0⟩, ⟨hB0⟩⟩
    case round =>
      obtain ⟨i, rfl, HK, HI, HC, HB⟩ := hrel
      cases gk with
      | zero => exact absurd HK.out (by have := HI.out; omega)
      | succ k1 =>
        by_cases c1 : i < a0.size
        · have t1 : decide ((i : Int) < (a0.size : Int)) = true := decide_eq_true (by omega)
          obtain ⟨x, hx⟩ : ∃ x, x = a0.data.toList.getD i 0 := ⟨_, rfl⟩
          have hcell := (HC.out i c1).1
          have hfz := (HC.out i c1).2
          rw [tAt_old (Nat.le_refl _), ← hx] at hcell
          have HX := Aside0.mk hx
          clear hx
          have hw1 : IntKind.i64.wrap ((i : Int) + 1) = (i : Int) + 1 := by simp [IntKind.wrap, IntKind.bits, IntKind.signed]; omega
          have hxl := x.toNat_lt
          have HXL := Aside0.mk hxl
          clear hxl
          by_cases c2 : 65 ≤ x.toNat ∧ x.toNat ≤ 90
          · have t2 : decide ((65 : Int) ≤ (x.toNat : Int)) = true := decide_eq_true (by omega)
            have t3 : decide ((x.toNat : Int) ≤ 90) = true := decide_eq_true (by omega)
            have C2 := Aside0.mk c2
            clear c2
            go_wp2
            go_roundg k1
            case measure => omega
            case rel => exact ⟨i + 1, by go_num, ⟨by have := HK.out; omega⟩, ⟨by omega⟩, ⟨HC.out.set (fun j hj => tAt_next hj) (by rw [tAt_here, ← HX.out]; unfold idiomref07_Small.g; rw [if_pos C2.out, UInt8.toNat_ofNat']; have := C2.out; first | omega | (simp [IntKind.wrap, IntKind.bits, IntKind.signed]; omega))⟩, ⟨HB.out.setCell (Nat.le_refl _) _⟩⟩
          · have hlow : idiomref07_Small.g x = x := if_neg c2
            have HL := Aside0.mk hlow
            clear hlow
            by_cases c3 : 65 ≤ x.toNat
            · have t2 : decide ((65 : Int) ≤ (x.toNat : Int)) = true := decide_eq_true (by omega)
              have t3 : decide ((x.toNat : Int) ≤ 90) = false := decide_eq_false (by omega)
              clear c2 c3
              go_wp2
              go_roundg k1
              case measure => omega
              case rel => exact ⟨i + 1, by go_num, ⟨by have := HK.out; omega⟩, ⟨by omega⟩, ⟨HC.out.congr (fun j => tAt_same (by rw [← HX.out]; exact HL.out) j)⟩, ⟨HB.out⟩⟩
            · have t2 : decide ((65 : Int) ≤ (x.toNat : Int)) = false := decide_eq_false (by omega)
              clear c2 c3
              go_wp2
              go_roundg k1
              case measure => omega
              case rel => exact ⟨i + 1, by go_num, ⟨by have := HK.out; omega⟩, ⟨by omega⟩, ⟨HC.out.congr (fun j => tAt_same (by rw [← HX.out]; exact HL.out) j)⟩, ⟨HB.out⟩⟩
        · have t1 : decide ((i : Int) < (a0.size : Int)) = false := decide_eq_false (by omega)
          have hi : i = a0.size := by have := HI.out; omega
          subst hi
          have hbk := tAt_done (P := Tryz.prog) (cap := grownCap w a0.size 0 5) Tryz.underlying82 Tryz.underlying5 Tryz.underlying9 HC.out
          go_wp2
          go_ret
          exact ⟨rfl, HB.out⟩
  · rw [if_neg hs] at h; cases h
def idiomref07_script.f (k : Nat) (a0 : ByteArray) : Option (Bool) := (idiomref07_letters.f k a0 4).bind fun t104 => (some t104)
theorem idiomref07_script.mono : ∀ a0 k, LeO (idiomref07_script.f k a0) (idiomref07_script.f (k + 1) a0) := by
 intro a0 k
 unfold idiomref07_script.f
 repeat' first
   | (with_reducible exact idiomref07_letters.mono _ _ _)
   | (with_reducible exact LeO.refl _)
   | (with_reducible exact LeO.none _)
   | (with_reducible refine LeO.ite ?_ ?_)
   | (with_reducible refine LeO.bind ?_ (fun _ => ?_))
   | exact idiomref07_letters.mono _ _ _
   | exact LeO.none _
   | refine LeO.ite ?_ ?_
   | refine LeO.bind ?_ (fun _ => ?_)
set_option maxHeartbeats 8000000 in
set_option maxRecDepth 100000 in
theorem idiomref07_script.calls (k : Nat) (a0 : ByteArray) (r : Bool) (w : World) (h : idiomref07_script.f k a0 = some r) :
  Calls Tryz.prog 30 #[.string a0] w fun e w' => e = .returned (.bool r) ∧ Drawn0 w w' := by
 have H : ((idiomref07_letters.f k a0 4).bind fun t104 => (some t104)) = some r := h
 clear h
 replace H := Option.bind_eq_some_iff.mp H
 obtain ⟨t104, A20, H⟩ := H
 try dsimp only at H
 have A2 := Aside0.mk A20
 clear A20
 obtain rfl := Option.some.inj H
 go_enter Tryz.func30, Tryz.ntmps30
 go_wp2_with (first | ((with_reducible refine gate_callee (f := 64) rfl ?_); refine gb_ (some 4) Tryz.func64 #[.string a0, .int .i64 4] ?_; (with_reducible refine (idiomref07_letters.calls k a0 4 t104 _ A2.out).mono ?_); rintro e w' ⟨rfl, ⟨nd, rfl⟩⟩; refine ⟨_, rfl, ?_⟩))
 go_ret
 exact ⟨by first | rfl | (simp; done) | (simp [*]; done), by repeat (first | exact Drawn0.refl _ | apply Drawn0.step)⟩
def idiomref07_great.g (b : UInt8) : UInt8 := if 97 ≤ b.toNat ∧ b.toNat ≤ 122 then UInt8.ofNat (b.toNat - 32) else b
def idiomref07_great.f (a0 : ByteArray) : Option ByteArray := if a0.size < 9223372036854775807 then some ⟨(a0.data.toList.map idiomref07_great.g).toArray⟩ else none
set_option maxHeartbeats 4000000 in
set_option maxRecDepth 100000 in
theorem idiomref07_great.calls (a0 r : ByteArray) (w : World) (h : idiomref07_great.f a0 = some r) :
    Calls Tryz.prog 33 #[.string a0] w fun e w' => e = .returned (.string r) ∧ Below w.heap.size w w' := by
  unfold idiomref07_great.f at h
  by_cases hs : a0.size < 9223372036854775807
  · rw [if_pos hs] at h
    obtain rfl := Option.some.inj h
    clear h
    have hcv : ∀ W : World, (convert 9 82 (.string a0)).run Tryz.prog W = .ok (.slice (some ⟨W.heap.size, 0, none⟩) a0.size (grownCap W a0.size 0 5)) (Lib.bytesWorld W 5 a0) := fun W => Lib.run_convert_string_bytes W 9 82 5 a0 Tryz.underlying9 Tryz.underlying82 Tryz.underlying5
    have hB0 : Below w.heap.size w (Lib.bytesWorld w 5 a0) := bytes_below (Below.refl _ _) (Nat.le_refl _) 5 a0
    have hC0 : BytesAt (Lib.bytesWorld w 5 a0) w.heap.size a0.size (tAt idiomref07_great.g a0.data.toList 0) := (BytesAt.conv w 5 a0).congr (fun j => tAt_old (Nat.zero_le _))
    go_enter Tryz.func33, Tryz.ntmps33
    go_wp2
    go_loopg [4] (a0.size + 1) (fun kq v4 w' => ∃ i : Nat, v4 = .int .i64 (i : Int) ∧ Aside0 (kq + i = a0.size + 1) ∧ Aside0 (i ≤ a0.size) ∧ Aside0 (BytesAt w' w.heap.size a0.size (tAt idiomref07_great.g a0.data.toList i)) ∧ Aside0 (Below w.heap.size w w'))
    case atStart => exact ⟨0, rfl, ⟨rfl⟩, ⟨Nat.zero_le _⟩, ⟨hC0⟩, ⟨hB0⟩⟩
    case round =>
      obtain ⟨i, rfl, HK, HI, HC, HB⟩ := hrel
      cases gk with
      | zero => exact absurd HK.out (by have := HI.out; omega)
      | succ k1 =>
        by_cases c1 : i < a0.size
        · have t1 : decide ((i : Int) < (a0.size : Int)) = true := decide_eq_true (by omega)
          obtain ⟨x, hx⟩ : ∃ x, x = a0.data.toList.getD i 0 := ⟨_, rfl⟩
          have hcell := (HC.out i c1).1
          have hfz := (HC.out i c1).2
          rw [tAt_old (Nat.le_refl _), ← hx] at hcell
          have HX := Aside0.mk hx
          clear hx
          have hw1 : IntKind.i64.wrap ((i : Int) + 1) = (i : Int) + 1 := by simp [IntKind.wrap, IntKind.bits, IntKind.signed]; omega
          have hxl := x.toNat_lt
          have HXL := Aside0.mk hxl
          clear hxl
          by_cases c2 : 97 ≤ x.toNat ∧ x.toNat ≤ 122
          · have t2 : decide ((97 : Int) ≤ (x.toNat : Int)) = true := decide_eq_true (by omega)
            have t3 : decide ((x.toNat : Int) ≤ 122) = true := decide_eq_true (by omega)
            have C2 := Aside0.mk c2
            clear c2
            go_wp2
            go_roundg k1
            case measure => omega
            case rel => exact ⟨i + 1, by go_num, ⟨by have := HK.out; omega⟩, ⟨by omega⟩, ⟨HC.out.set (fun j hj => tAt_next hj) (by rw [tAt_here, ← HX.out]; unfold idiomref07_great.g; rw [if_pos C2.out, UInt8.toNat_ofNat']; have := C2.out; first | omega | (simp [IntKind.wrap, IntKind.bits, IntKind.signed]; omega))⟩, ⟨HB.out.setCell (Nat.le_refl _) _⟩⟩
          · have hlow : idiomref07_great.g x = x := if_neg c2
            have HL := Aside0.mk hlow
            clear hlow
            by_cases c3 : 97 ≤ x.toNat
            · have t2 : decide ((97 : Int) ≤ (x.toNat : Int)) = true := decide_eq_true (by omega)
              have t3 : decide ((x.toNat : Int) ≤ 122) = false := decide_eq_false (by omega)
              clear c2 c3
              go_wp2
              go_roundg k1
              case measure => omega
              case rel => exact ⟨i + 1, by go_num, ⟨by have := HK.out; omega⟩, ⟨by omega⟩, ⟨HC.out.congr (fun j => tAt_same (by rw [← HX.out]; exact HL.out) j)⟩, ⟨HB.out⟩⟩
            · have t2 : decide ((97 : Int) ≤ (x.toNat : Int)) = false := decide_eq_false (by omega)
              clear c2 c3
              go_wp2
              go_roundg k1
              case measure => omega
              case rel => exact ⟨i + 1, by go_num, ⟨by have := HK.out; omega⟩, ⟨by omega⟩, ⟨HC.out.congr (fun j => tAt_same (by rw [← HX.out]; exact HL.out) j)⟩, ⟨HB.out⟩⟩
        · have t1 : decide ((i : Int) < (a0.size : Int)) = false := decide_eq_false (by omega)
          have hi : i = a0.size := by have := HI.out; omega
          subst hi
          have hbk := tAt_done (P := Tryz.prog) (cap := grownCap w a0.size 0 5) Tryz.underlying82 Tryz.underlying5 Tryz.underlying9 HC.out
          go_wp2
          go_ret
          exact ⟨rfl, HB.out⟩
  · rw [if_neg hs] at h; cases h
end Go.Proofs.YtphjhbppjakocaaGreatDoor.PTag
