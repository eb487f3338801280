/- Printed by a program (the kit's print.py with changes of this session) out of Lean's own print of the program: functions of the program as plain Lean functions, and that each call comes to what they say; conditions: those that each theorem states. Not trusted: Lean checks it. -/
import Derived.Test.YtphjhbppjakocaaGreatDoorPU0
import Derived.Test.YtphjhbppjakocaaGreatDoorBrief
namespace Go.Proofs.YtphjhbppjakocaaGreatDoor.PTag
open Go.RowKit Go.Proofs.YtphjhbppjakocaaGreatDoorW.PrintWords Go.Proofs.YtphjhbppjakocaaGreatDoorW.PrintLast Go.Proofs.YtphjhbppjakocaaGreatDoorW.PrintMore
attribute [local go_sem] max2_int min2_int max_two min_two max_three min_three max_four min_four
set_option linter.unusedVariables false
set_option linter.unusedSimpArgs false
attribute [local go_sem] setCell_drewN_ cell_put_twice_ gtr_less_
mutual
def idiomref07_text.j0 : Nat → ByteArray → ByteArray → ByteArray → ByteArray → List ByteArray → List (S39) → Option (ByteArray)
 | 0, _, _, _, _, _, _ => none
 | k + 1, x3, x256000, x256001, x256002, x256003, x256004 => if x256001.toList = ([] : List UInt8) then (idiomref07_text.j1 k x3 x256000 x256001 x256002 x256003 x256004) else (if x3.size + 1 ≤ 9223372036854775807 then (if (x3 ++ (⟨#[45]⟩ : ByteArray)).size + x256001.size ≤ 9223372036854775807 then (idiomref07_text.j1 k ((x3 ++ (⟨#[45]⟩ : ByteArray)) ++ x256001) x256000 x256001 x256002 x256003 x256004) else (none)) else (none))
def idiomref07_text.j1 : Nat → ByteArray → ByteArray → ByteArray → ByteArray → List ByteArray → List (S39) → Option (ByteArray)
 | 0, _, _, _, _, _, _ => none
 | k + 1, x3, x256000, x256001, x256002, x256003, x256004 => if x256002.toList = ([] : List UInt8) then (idiomref07_text.j2 k x3 x256000 x256001 x256002 x256003 x256004) else (if x3.size + 1 ≤ 9223372036854775807 then (if (x3 ++ (⟨#[45]⟩ : ByteArray)).size + x256002.size ≤ 9223372036854775807 then (idiomref07_text.j2 k ((x3 ++ (⟨#[45]⟩ : ByteArray)) ++ x256002) x256000 x256001 x256002 x256003 x256004) else (none)) else (none))
def idiomref07_text.j2 : Nat → ByteArray → ByteArray → ByteArray → ByteArray → List ByteArray → List (S39) → Option (ByteArray)
 | 0, _, _, _, _, _, _ => none
 | k + 1, x3, x256000, x256001, x256002, x256003, x256004 => idiomref07_text.l0 k x3 0 x256000 x256001 x256002 x256003 x256004
def idiomref07_text.l0 : Nat → ByteArray → Int → ByteArray → ByteArray → ByteArray → List ByteArray → List (S39) → Option (ByteArray)
 | 0, _, _, _, _, _, _, _ => none
 | k + 1, x3, x4, x256000, x256001, x256002, x256003, x256004 => if x4 < (x256003.length : Int) then (if x3.size + 1 ≤ 9223372036854775807 then (if 0 ≤ x4 then (if (x3 ++ (⟨#[45]⟩ : ByteArray)).size + (rdOf ByteArray.empty x256003 x4).size ≤ 9223372036854775807 then (idiomref07_text.l0 k ((x3 ++ (⟨#[45]⟩ : ByteArray)) ++ (rdOf ByteArray.empty x256003 x4)) (wrap64 (x4 + 1)) x256000 x256001 x256002 x256003 x256004) else (none)) else (none)) else (none)) else (idiomref07_text.l1 k x3 0 x256000 x256001 x256002 x256003 x256004)
def idiomref07_text.l1 : Nat → ByteArray → Int → ByteArray → ByteArray → ByteArray → List ByteArray → List (S39) → Option (ByteArray)
 | 0, _, _, _, _, _, _, _ => none
 | k + 1, x3, x5, x256000, x256001, x256002, x256003, x256004 => if x5 < (x256004.length : Int) then (if x5 = 0 then (if x3.size + 2 ≤ 9223372036854775807 then (idiomref07_text.j5 k (x3 ++ (⟨#[45, 117]⟩ : ByteArray)) x5 x256000 x256001 x256002 x256003 x256004) else (none)) else (idiomref07_text.j5 k x3 x5 x256000 x256001 x256002 x256003 x256004)) else (some x3)
def idiomref07_text.j5 : Nat → ByteArray → Int → ByteArray → ByteArray → ByteArray → List ByteArray → List (S39) → Option (ByteArray)
 | 0, _, _, _, _, _, _, _ => none
 | k + 1, x3, x5, x256000, x256001, x256002, x256003, x256004 => if x3.size + 1 ≤ 9223372036854775807 then (if 0 ≤ x5 then (if x5 < (x256004.length : Int) then (if (x3 ++ (⟨#[45]⟩ : ByteArray)).size + ((rd_T39 x256004 x5).f0).size ≤ 9223372036854775807 then (if ((rd_T39 x256004 x5).f1).toList = ([] : List UInt8) then (idiomref07_text.l1 k ((x3 ++ (⟨#[45]⟩ : ByteArray)) ++ ((rd_T39 x256004 x5).f0)) (wrap64 (x5 + 1)) x256000 x256001 x256002 x256003 x256004) else (if ((x3 ++ (⟨#[45]⟩ : ByteArray)) ++ ((rd_T39 x256004 x5).f0)).size + 1 ≤ 9223372036854775807 then (if (((x3 ++ (⟨#[45]⟩ : ByteArray)) ++ ((rd_T39 x256004 x5).f0)) ++ (⟨#[45]⟩ : ByteArray)).size + ((rd_T39 x256004 x5).f1).size ≤ 9223372036854775807 then (idiomref07_text.l1 k ((((x3 ++ (⟨#[45]⟩ : ByteArray)) ++ ((rd_T39 x256004 x5).f0)) ++ (⟨#[45]⟩ : ByteArray)) ++ ((rd_T39 x256004 x5).f1)) (wrap64 (x5 + 1)) x256000 x256001 x256002 x256003 x256004) else (none)) else (none))) else (none)) else (none)) else (none)) else (none)
end
def idiomref07_text.f (k : Nat) (a0_0 : ByteArray) (a0_1 : ByteArray) (a0_2 : ByteArray) (l0_3 : List ByteArray) (l0_4 : List (S39)) : Option (ByteArray) := if a0_0.toList = ([] : List UInt8) then (idiomref07_text.j0 k (⟨#[117, 110, 100]⟩ : ByteArray) a0_0 a0_1 a0_2 l0_3 l0_4) else (idiomref07_text.j0 k a0_0 a0_0 a0_1 a0_2 l0_3 l0_4)
set_option maxHeartbeats 8000000 in
set_option maxRecDepth 100000 in
theorem idiomref07_text.calls (k : Nat) (a0_0 : ByteArray) (a0_1 : ByteArray) (a0_2 : ByteArray) (A0_3 : Option Addr) (c0_3 : Nat) (l0_3 : List ByteArray) (A0_4 : Option Addr) (c0_4 : Nat) (l0_4 : List (S39)) (r : ByteArray) (w : World) (hr0_3 : Kd.C Kd.string w A0_3 l0_3.length l0_3) (hc0_3 : l0_3.length ≤ c0_3) (hr0_4 : Kd.C k39 w A0_4 l0_4.length l0_4) (hc0_4 : l0_4.length ≤ c0_4) (h : idiomref07_text.f k a0_0 a0_1 a0_2 l0_3 l0_4 = some r) :
  Calls Tryz.prog 37 #[.agg #[.string a0_0, .string a0_1, .string a0_2, .slice A0_3 l0_3.length c0_3, .slice A0_4 l0_4.length c0_4]] w fun e w' => e = .returned (.string r) ∧ Below w.heap.size w w' := by
 have hu25 := Tryz.underlying25
 have HR0_3 := Aside0.mk hr0_3
 have HC0_3 := Aside0.mk hc0_3
 clear hr0_3 hc0_3
 have HR0_4 := Aside0.mk hr0_4
 have HC0_4 := Aside0.mk hc0_4
 clear hr0_4 hc0_4
 have HB := Aside0.mk (Below.refl w.heap.size w)
 have H : (if a0_0.toList = ([] : List UInt8) then (idiomref07_text.j0 k (⟨#[117, 110, 100]⟩ : ByteArray) a0_0 a0_1 a0_2 l0_3 l0_4) else (idiomref07_text.j0 k a0_0 a0_0 a0_1 a0_2 l0_3 l0_4)) = some r := h
 clear h
 have HC2 := Aside0.mk H
 clear H
 go_enter Tryz.func37, Tryz.ntmps37
 go_upto_if 9 with (first | (refine bx_ 1 #[.string a0_0, .string a0_1, .string a0_2, .slice A0_3 l0_3.length c0_3, .slice A0_4 l0_4.length c0_4] 25 ?_; intro gb255 hg w3 hbox hb; have BK255 := Aside0.mk (hbox); have GW255 := Aside0.mk ((by rw [hg]; exact hz_ : w.heap.size ≤ gb255)); have GE255 := Aside0.mk ((by rw [hg]; exact hz_ : w.heap.size ≤ gb255)); replace HB := Aside0.mk (below_step hb_ hb); clear hb hbox hg; obtain ⟨hcz4_0, hcz4_1, hcz4_2, hcz4_3, hcz4_4, hfz4_0, hfz4_1, hfz4_2, hfz4_3, hfz4_4⟩ := c5_ BK255))
 (try simp only [Act.put, List.setIfInBounds_toArray, List.set_cons_zero, List.set_cons_succ])
 go_cut [3] (fun v3 wc => ∃ (kq : Nat) (x3_1 : ByteArray), v3 = .string x3_1 ∧ Aside0 (idiomref07_text.j0 kq x3_1 a0_0 a0_1 a0_2 l0_3 l0_4 = some r) ∧ Aside0 (kq ≤ k) ∧ Aside0 (wc.heap[gb255]? = some (.cells #[.string a0_0, .string a0_1, .string a0_2, (.slice A0_3 l0_3.length c0_3), (.slice A0_4 l0_4.length c0_4)] 25 (0, 0))) ∧ Aside0 (Below w.heap.size w wc))
 case first =>
  have H := HC2.out
  clear HC2
  by_cases c5 : a0_0.toList = ([] : List UInt8)
  ·rw [if_pos c5] at H
   have c5b0 : (a0_0.toList == ([] : List UInt8)) = true := beq_iff_eq.mpr c5
   have c5b1 : (a0_0.toList != ([] : List UInt8)) = false := bne_eq_false_iff_eq.mpr c5
   have c5b2 : a0_0.toList.isEmpty = true := List.isEmpty_iff.mpr c5
   clear c5
   (first | rw [c5b0] | rw [c5b1] | rw [c5b2] | (simp only [i64_w, i32_w]; rw [c5b0]) | skip)
   (try simp only [Bool.not_true, Bool.not_false])
   have H' := Aside0.mk H
   clear H
   go_wp2
   go_meet
   case rel => exact ⟨_, ((⟨#[117, 110, 100]⟩ : ByteArray)), (by first | rfl | (simp; done) | (simp [*]; done)), H', ⟨by first | omega | exact Nat.le_refl _⟩, ⟨by (with_reducible repeat (first | refine blk_drewN ?_ _ | refine blk_drew ?_ | refine blk_alloc ?_ _)); exact BK255.out⟩, ⟨by repeat (first | (with_reducible first | exact HB.out | apply below_alloc | apply pw_below_drewN | apply below_drew1 | refine below_set ?_ GE255.out) | exact HB.out)⟩⟩
  ·rw [if_neg c5] at H
   have c5b0 : (a0_0.toList == ([] : List UInt8)) = false := beq_eq_false_iff_ne.mpr c5
   have c5b1 : (a0_0.toList != ([] : List UInt8)) = true := bne_iff_ne.mpr c5
   have c5b2 : a0_0.toList.isEmpty = false := List.isEmpty_eq_false_iff.mpr c5
   (first | rw [c5b0] | rw [c5b1] | rw [c5b2] | (simp only [i64_w, i32_w]; rw [c5b0]) | skip)
   (try simp only [Bool.not_true, Bool.not_false])
   have H' := Aside0.mk H
   clear H
   go_wp2
   go_meet
   case rel => exact ⟨_, (a0_0), (by first | rfl | (simp; done) | (simp [*]; done)), H', ⟨by first | omega | exact Nat.le_refl _⟩, ⟨by (with_reducible repeat (first | refine blk_drewN ?_ _ | refine blk_drew ?_ | refine blk_alloc ?_ _)); exact BK255.out⟩, ⟨by repeat (first | (with_reducible first | exact HB.out | apply below_alloc | apply pw_below_drewN | apply below_drew1 | refine below_set ?_ GE255.out) | exact HB.out)⟩⟩
 case rest =>
  clear HC2
  clear hcz4_0 hcz4_1 hcz4_2 hcz4_3 hcz4_4 hfz4_0 hfz4_1 hfz4_2 hfz4_3 hfz4_4
  obtain ⟨kq, x3_1, rfl, HA, HJ1, BK255, HB⟩ := hcut
  cases kq with
  | zero => exact absurd HA.out (by simp [idiomref07_text.j0])
  | succ kj1 =>
   have H := HA.out
   clear HA
   simp only [idiomref07_text.j0] at H
   have HC6 := Aside0.mk H
   clear H
   obtain ⟨hcz7_0, hcz7_1, hcz7_2, hcz7_3, hcz7_4, hfz7_0, hfz7_1, hfz7_2, hfz7_3, hfz7_4⟩ := c5_ BK255
   go_upto_if 12 with (fail)
   go_cut [3] (fun v3 wc => ∃ (kq : Nat) (x3_5 : ByteArray), v3 = .string x3_5 ∧ Aside0 (idiomref07_text.j1 kq x3_5 a0_0 a0_1 a0_2 l0_3 l0_4 = some r) ∧ Aside0 (kq ≤ kj1) ∧ Aside0 (wc.heap[gb255]? = some (.cells #[.string a0_0, .string a0_1, .string a0_2, (.slice A0_3 l0_3.length c0_3), (.slice A0_4 l0_4.length c0_4)] 25 (0, 0))) ∧ Aside0 (Below w.heap.size w wc))
   case first =>
    have H := HC6.out
    clear HC6
    by_cases c8 : a0_1.toList = ([] : List UInt8)
    ·rw [if_pos c8] at H
     have c8b0 : (a0_1.toList == ([] : List UInt8)) = true := beq_iff_eq.mpr c8
     have c8b1 : (a0_1.toList != ([] : List UInt8)) = false := bne_eq_false_iff_eq.mpr c8
     have c8b2 : a0_1.toList.isEmpty = true := List.isEmpty_iff.mpr c8
     clear c8
     (first | rw [c8b0] | rw [c8b1] | rw [c8b2] | (simp only [i64_w, i32_w]; rw [c8b0]) | skip)
     (try simp only [Bool.not_true, Bool.not_false])
     have H' := Aside0.mk H
     clear H
     go_wp2
     go_meet
     case rel => exact ⟨_, (x3_1), (by first | rfl | (simp; done) | (simp [*]; done)), H', ⟨by have := HJ1.out; first | omega | exact Nat.le_refl _⟩, ⟨by (with_reducible repeat (first | refine blk_drewN ?_ _ | refine blk_drew ?_ | refine blk_alloc ?_ _)); exact BK255.out⟩, ⟨by repeat (first | (with_reducible first | exact HB.out | apply below_alloc | apply pw_below_drewN | apply below_drew1 | refine below_set ?_ GE255.out) | exact HB.out)⟩⟩
    ·rw [if_neg c8] at H
     have c8b0 : (a0_1.toList == ([] : List UInt8)) = false := beq_eq_false_iff_ne.mpr c8
     have c8b1 : (a0_1.toList != ([] : List UInt8)) = true := bne_iff_ne.mpr c8
     have c8b2 : a0_1.toList.isEmpty = false := List.isEmpty_eq_false_iff.mpr c8
     (first | rw [c8b0] | rw [c8b1] | rw [c8b2] | (simp only [i64_w, i32_w]; rw [c8b0]) | skip)
     (try simp only [Bool.not_true, Bool.not_false])
     by_cases c9 : x3_1.size + 1 ≤ 9223372036854775807
     ·rw [if_pos c9] at H
      have c9b0 := eq_true c9
      have c9b1 : decide (x3_1.size + 1 ≤ 9223372036854775807) = true := decide_eq_true c9
      try have c9b2 : (9223372036854775807 < x3_1.size + 1) = False := eq_false (Nat.not_lt.2 c9)
      (try (have c9b3 := c9b2; simp only [ByteArray.size_append, sz1_, sz2_, sz3_] at c9b3))
      by_cases c10 : (x3_1 ++ (⟨#[45]⟩ : ByteArray)).size + a0_1.size ≤ 9223372036854775807
      ·rw [if_pos c10] at H
       have c10b0 := eq_true c10
       have c10b1 : decide ((x3_1 ++ (⟨#[45]⟩ : ByteArray)).size + a0_1.size ≤ 9223372036854775807) = true := decide_eq_true c10
       try have c10b2 : (9223372036854775807 < (x3_1 ++ (⟨#[45]⟩ : ByteArray)).size + a0_1.size) = False := eq_false (Nat.not_lt.2 c10)
       (try (have c10b3 := c10b2; simp only [ByteArray.size_append, sz1_, sz2_, sz3_] at c10b3))
       have H' := Aside0.mk H
       clear H
       obtain ⟨hcz11_0, hcz11_1, hcz11_2, hcz11_3, hcz11_4, hfz11_0, hfz11_1, hfz11_2, hfz11_3, hfz11_4⟩ := c5_ BK255
       go_wp2
       go_meet
       case rel => exact ⟨_, ((x3_1 ++ (⟨#[45]⟩ : ByteArray)) ++ a0_1), (by first | rfl | (simp; done) | (simp [*]; done)), H', ⟨by have := HJ1.out; first | omega | exact Nat.le_refl _⟩, ⟨by (with_reducible repeat (first | refine blk_drewN ?_ _ | refine blk_drew ?_ | refine blk_alloc ?_ _)); exact BK255.out⟩, ⟨by repeat (first | (with_reducible first | exact HB.out | apply below_alloc | apply pw_below_drewN | apply below_drew1 | refine below_set ?_ GE255.out) | exact HB.out)⟩⟩
      ·rw [if_neg c10] at H
       exact absurd H (by simp)
     ·rw [if_neg c9] at H
      exact absurd H (by simp)
   case rest =>
    clear HC6
    clear hcz7_0 hcz7_1 hcz7_2 hcz7_3 hcz7_4 hfz7_0 hfz7_1 hfz7_2 hfz7_3 hfz7_4
    obtain ⟨kq, x3_5, rfl, HA, HJ5, BK255, HB⟩ := hcut
    cases kq with
    | zero => exact absurd HA.out (by simp [idiomref07_text.j1])
    | succ kj5 =>
     have H := HA.out
     clear HA
     simp only [idiomref07_text.j1] at H
     have HC12 := Aside0.mk H
     clear H
     obtain ⟨hcz13_0, hcz13_1, hcz13_2, hcz13_3, hcz13_4, hfz13_0, hfz13_1, hfz13_2, hfz13_3, hfz13_4⟩ := c5_ BK255
     go_upto_if 20 with (fail)
     go_cut [3] (fun v3 wc => ∃ (kq : Nat) (x3_11 : ByteArray), v3 = .string x3_11 ∧ Aside0 (idiomref07_text.j2 kq x3_11 a0_0 a0_1 a0_2 l0_3 l0_4 = some r) ∧ Aside0 (kq ≤ kj5) ∧ Aside0 (wc.heap[gb255]? = some (.cells #[.string a0_0, .string a0_1, .string a0_2, (.slice A0_3 l0_3.length c0_3), (.slice A0_4 l0_4.length c0_4)] 25 (0, 0))) ∧ Aside0 (Below w.heap.size w wc))
     case first =>
      have H := HC12.out
      clear HC12
      by_cases c14 : a0_2.toList = ([] : List UInt8)
      ·rw [if_pos c14] at H
       have c14b0 : (a0_2.toList == ([] : List UInt8)) = true := beq_iff_eq.mpr c14
       have c14b1 : (a0_2.toList != ([] : List UInt8)) = false := bne_eq_false_iff_eq.mpr c14
       have c14b2 : a0_2.toList.isEmpty = true := List.isEmpty_iff.mpr c14
       clear c14
       (first | rw [c14b0] | rw [c14b1] | rw [c14b2] | (simp only [i64_w, i32_w]; rw [c14b0]) | skip)
       (try simp only [Bool.not_true, Bool.not_false])
       have H' := Aside0.mk H
       clear H
       go_wp2
       go_meet
       case rel => exact ⟨_, (x3_5), (by first | rfl | (simp; done) | (simp [*]; done)), H', ⟨by have := HJ1.out; have := HJ5.out; first | omega | exact Nat.le_refl _⟩, ⟨by (with_reducible repeat (first | refine blk_drewN ?_ _ | refine blk_drew ?_ | refine blk_alloc ?_ _)); exact BK255.out⟩, ⟨by repeat (first | (with_reducible first | exact HB.out | apply below_alloc | apply pw_below_drewN | apply below_drew1 | refine below_set ?_ GE255.out) | exact HB.out)⟩⟩
      ·rw [if_neg c14] at H
       have c14b0 : (a0_2.toList == ([] : List UInt8)) = false := beq_eq_false_iff_ne.mpr c14
       have c14b1 : (a0_2.toList != ([] : List UInt8)) = true := bne_iff_ne.mpr c14
       have c14b2 : a0_2.toList.isEmpty = false := List.isEmpty_eq_false_iff.mpr c14
       (first | rw [c14b0] | rw [c14b1] | rw [c14b2] | (simp only [i64_w, i32_w]; rw [c14b0]) | skip)
       (try simp only [Bool.not_true, Bool.not_false])
       by_cases c15 : x3_5.size + 1 ≤ 9223372036854775807
       ·rw [if_pos c15] at H
        have c15b0 := eq_true c15
        have c15b1 : decide (x3_5.size + 1 ≤ 9223372036854775807) = true := decide_eq_true c15
        try have c15b2 : (9223372036854775807 < x3_5.size + 1) = False := eq_false (Nat.not_lt.2 c15)
        (try (have c15b3 := c15b2; simp only [ByteArray.size_append, sz1_, sz2_, sz3_] at c15b3))
        by_cases c16 : (x3_5 ++ (⟨#[45]⟩ : ByteArray)).size + a0_2.size ≤ 9223372036854775807
        ·rw [if_pos c16] at H
         have c16b0 := eq_true c16
         have c16b1 : decide ((x3_5 ++ (⟨#[45]⟩ : ByteArray)).size + a0_2.size ≤ 9223372036854775807) = true := decide_eq_true c16
         try have c16b2 : (9223372036854775807 < (x3_5 ++ (⟨#[45]⟩ : ByteArray)).size + a0_2.size) = False := eq_false (Nat.not_lt.2 c16)
         (try (have c16b3 := c16b2; simp only [ByteArray.size_append, sz1_, sz2_, sz3_] at c16b3))
         have H' := Aside0.mk H
         clear H
         obtain ⟨hcz17_0, hcz17_1, hcz17_2, hcz17_3, hcz17_4, hfz17_0, hfz17_1, hfz17_2, hfz17_3, hfz17_4⟩ := c5_ BK255
         go_wp2
         go_meet
         case rel => exact ⟨_, ((x3_5 ++ (⟨#[45]⟩ : ByteArray)) ++ a0_2), (by first | rfl | (simp; done) | (simp [*]; done)), H', ⟨by have := HJ1.out; have := HJ5.out; first | omega | exact Nat.le_refl _⟩, ⟨by (with_reducible repeat (first | refine blk_drewN ?_ _ | refine blk_drew ?_ | refine blk_alloc ?_ _)); exact BK255.out⟩, ⟨by repeat (first | (with_reducible first | exact HB.out | apply below_alloc | apply pw_below_drewN | apply below_drew1 | refine below_set ?_ GE255.out) | exact HB.out)⟩⟩
        ·rw [if_neg c16] at H
         exact absurd H (by simp)
       ·rw [if_neg c15] at H
        exact absurd H (by simp)
     case rest =>
      clear HC12
      clear hcz13_0 hcz13_1 hcz13_2 hcz13_3 hcz13_4 hfz13_0 hfz13_1 hfz13_2 hfz13_3 hfz13_4
      obtain ⟨kq, x3_11, rfl, HA, HJ11, BK255, HB⟩ := hcut
      cases kq with
      | zero => exact absurd HA.out (by simp [idiomref07_text.j2])
      | succ kj11 =>
       have H := HA.out
       clear HA
       simp only [idiomref07_text.j2] at H
       have H' := Aside0.mk H
       clear H
       go_wp2
       go_loopg [3, 4] kj11 (fun kq v3 v4 w' => ∃ (x3_4 : ByteArray) (x4_4 : Int), v3 = .string x3_4 ∧ v4 = .int .i64 x4_4 ∧ Aside0 (idiomref07_text.l0 kq x3_4 x4_4 a0_0 a0_1 a0_2 l0_3 l0_4 = some r) ∧ Aside0 (kq ≤ kj11) ∧ Aside0 (w'.heap[gb255]? = some (.cells #[.string a0_0, .string a0_1, .string a0_2, (.slice A0_3 l0_3.length c0_3), (.slice A0_4 l0_4.length c0_4)] 25 (0, 0))) ∧ Aside0 (Below w.heap.size w w'))
       case atStart => exact ⟨(x3_11), (0), (by first | rfl | (simp; done) | (simp [*]; done)), (by first | rfl | (simp; done) | (simp [*]; done)), H', ⟨Nat.le_refl _⟩, ⟨by (with_reducible repeat (first | refine blk_drewN ?_ _ | refine blk_drew ?_ | refine blk_alloc ?_ _)); exact BK255.out⟩, ⟨by repeat (first | (with_reducible first | exact HB.out | apply below_alloc | apply pw_below_drewN | apply below_drew1 | refine below_set ?_ GE255.out) | exact HB.out)⟩⟩
       case round =>
        clear H'
        obtain ⟨x3_4, x4_4, rfl, rfl, HA, HK4, BK255, HB⟩ := hrel
        cases gk with
        | zero => exact absurd HA.out (by simp [idiomref07_text.l0])
        | succ k4 =>
         have H := HA.out
         clear HA
         simp only [idiomref07_text.l0] at H
         by_cases c18 : x4_4 < (l0_3.length : Int)
         ·rw [if_pos c18] at H
          have c18b0 : decide (x4_4 < (l0_3.length : Int)) = true := decide_eq_true c18
          clear c18
          by_cases c19 : x3_4.size + 1 ≤ 9223372036854775807
          ·rw [if_pos c19] at H
           have c19b0 := eq_true c19
           have c19b1 : decide (x3_4.size + 1 ≤ 9223372036854775807) = true := decide_eq_true c19
           try have c19b2 : (9223372036854775807 < x3_4.size + 1) = False := eq_false (Nat.not_lt.2 c19)
           (try (have c19b3 := c19b2; simp only [ByteArray.size_append, sz1_, sz2_, sz3_] at c19b3))
           by_cases c20 : 0 ≤ x4_4
           ·rw [if_pos c20] at H
            have c20b0 : decide (0 ≤ x4_4) = true := decide_eq_true c20
            clear c20
            by_cases c21 : (x3_4 ++ (⟨#[45]⟩ : ByteArray)).size + (rdOf ByteArray.empty l0_3 x4_4).size ≤ 9223372036854775807
            ·rw [if_pos c21] at H
             have c21b0 := eq_true c21
             have c21b1 : decide ((x3_4 ++ (⟨#[45]⟩ : ByteArray)).size + (rdOf ByteArray.empty l0_3 x4_4).size ≤ 9223372036854775807) = true := decide_eq_true c21
             try have c21b2 : (9223372036854775807 < (x3_4 ++ (⟨#[45]⟩ : ByteArray)).size + (rdOf ByteArray.empty l0_3 x4_4).size) = False := eq_false (Nat.not_lt.2 c21)
             (try (have c21b3 := c21b2; simp only [ByteArray.size_append, sz1_, sz2_, sz3_] at c21b3))
             have H' := Aside0.mk H
             clear H
             obtain ⟨hcz22_0, hcz22_1, hcz22_2, hcz22_3, hcz22_4, hfz22_0, hfz22_1, hfz22_2, hfz22_3, hfz22_4⟩ := c5_ BK255
             have p256 : 0 ≤ (x4_4 : Int) := of_decide_eq_true (by first | (with_reducible assumption) | assumption)
             have q256 : x4_4 < (l0_3.length : Int) := of_decide_eq_true (by first | (with_reducible assumption) | assumption)
             obtain ⟨ad256, e256, hx256_0⟩ := Kd.at_string HR0_3.out x4_4 p256 q256
             cases e256
             replace hx256_0 := (HB.out.cell (World.block_lt_of_cell? w _ hx256_0)).trans hx256_0
             replace p256 := eq_true p256
             replace q256 := eq_true q256
             go_wp2
             go_roundg k4
             case measure => have := HJ1.out; have := HJ5.out; have := HJ11.out; have := HK4.out; omega
             case rel => exact ⟨((x3_4 ++ (⟨#[45]⟩ : ByteArray)) ++ (rdOf ByteArray.empty l0_3 x4_4)), (wrap64 (x4_4 + 1)), (by first | rfl | (simp; done) | (simp [*]; done)), (by first | rfl | (simp; done) | (simp [*]; done)), H', ⟨by have := HJ1.out; have := HJ5.out; have := HJ11.out; have := HK4.out; omega⟩, ⟨by (with_reducible repeat (first | refine blk_drewN ?_ _ | refine blk_drew ?_ | refine blk_alloc ?_ _)); exact BK255.out⟩, ⟨by repeat (first | (with_reducible first | exact HB.out | apply below_alloc | apply pw_below_drewN | apply below_drew1 | refine below_set ?_ GE255.out) | exact HB.out)⟩⟩
            ·rw [if_neg c21] at H
             exact absurd H (by simp)
           ·rw [if_neg c20] at H
            exact absurd H (by simp)
          ·rw [if_neg c19] at H
           exact absurd H (by simp)
         ·rw [if_neg c18] at H
          have c18b0 : decide (x4_4 < (l0_3.length : Int)) = false := decide_eq_false c18
          clear c18
          have H' := Aside0.mk H
          clear H
          obtain ⟨hcz23_0, hcz23_1, hcz23_2, hcz23_3, hcz23_4, hfz23_0, hfz23_1, hfz23_2, hfz23_3, hfz23_4⟩ := c5_ BK255
          go_wp2
          go_loopg [3, 5] k4 (fun kq v3 v5 w' => ∃ (x3_5 : ByteArray) (x5_5 : Int), v3 = .string x3_5 ∧ v5 = .int .i64 x5_5 ∧ Aside0 (idiomref07_text.l1 kq x3_5 x5_5 a0_0 a0_1 a0_2 l0_3 l0_4 = some r) ∧ Aside0 (kq ≤ k4) ∧ Aside0 (w'.heap[gb255]? = some (.cells #[.string a0_0, .string a0_1, .string a0_2, (.slice A0_3 l0_3.length c0_3), (.slice A0_4 l0_4.length c0_4)] 25 (0, 0))) ∧ Aside0 (Below w.heap.size w w'))
          case atStart => exact ⟨(x3_4), (0), (by first | rfl | (simp; done) | (simp [*]; done)), (by first | rfl | (simp; done) | (simp [*]; done)), H', ⟨Nat.le_refl _⟩, ⟨by (with_reducible repeat (first | refine blk_drewN ?_ _ | refine blk_drew ?_ | refine blk_alloc ?_ _)); exact BK255.out⟩, ⟨by repeat (first | (with_reducible first | exact HB.out | apply below_alloc | apply pw_below_drewN | apply below_drew1 | refine below_set ?_ GE255.out) | exact HB.out)⟩⟩
          case round =>
           clear H'
           clear c18b0 hcz23_0 hcz23_1 hcz23_2 hcz23_3 hcz23_4 hfz23_0 hfz23_1 hfz23_2 hfz23_3 hfz23_4
           obtain ⟨x3_5, x5_5, rfl, rfl, HA, HK5, BK255, HB⟩ := hrel
           cases gk with
           | zero => exact absurd HA.out (by simp [idiomref07_text.l1])
           | succ k5 =>
            have H := HA.out
            clear HA
            simp only [idiomref07_text.l1] at H
            by_cases c24 : x5_5 < (l0_4.length : Int)
            ·rw [if_pos c24] at H
             have c24b0 : decide (x5_5 < (l0_4.length : Int)) = true := decide_eq_true c24
             clear c24
             have HC25 := Aside0.mk H
             clear H
             obtain ⟨hcz26_0, hcz26_1, hcz26_2, hcz26_3, hcz26_4, hfz26_0, hfz26_1, hfz26_2, hfz26_3, hfz26_4⟩ := c5_ BK255
             go_upto_if 49 with (fail)
             go_cut [3] (fun v3 wc => ∃ (kq : Nat) (x3_24 : ByteArray), v3 = .string x3_24 ∧ Aside0 (idiomref07_text.j5 kq x3_24 x5_5 a0_0 a0_1 a0_2 l0_3 l0_4 = some r) ∧ Aside0 (kq ≤ k5) ∧ Aside0 (wc.heap[gb255]? = some (.cells #[.string a0_0, .string a0_1, .string a0_2, (.slice A0_3 l0_3.length c0_3), (.slice A0_4 l0_4.length c0_4)] 25 (0, 0))) ∧ Aside0 (Below w.heap.size w wc))
             case first =>
              have H := HC25.out
              clear HC25
              by_cases c27 : x5_5 = 0
              ·rw [if_pos c27] at H
               have c27b0 : (x5_5 == 0) = true := beq_iff_eq.mpr c27
               have c27b1 : (x5_5 != 0) = false := bne_eq_false_iff_eq.mpr c27
               clear c27
               (first | rw [c27b0] | rw [c27b1] | rw [c27b2] | (simp only [i64_w, i32_w]; rw [c27b0]) | skip)
               (try simp only [Bool.not_true, Bool.not_false])
               by_cases c28 : x3_5.size + 2 ≤ 9223372036854775807
               ·rw [if_pos c28] at H
                have c28b0 := eq_true c28
                have c28b1 : decide (x3_5.size + 2 ≤ 9223372036854775807) = true := decide_eq_true c28
                try have c28b2 : (9223372036854775807 < x3_5.size + 2) = False := eq_false (Nat.not_lt.2 c28)
                (try (have c28b3 := c28b2; simp only [ByteArray.size_append, sz1_, sz2_, sz3_] at c28b3))
                have H' := Aside0.mk H
                clear H
                go_wp2
                go_meet
                case rel => exact ⟨_, (x3_5 ++ (⟨#[45, 117]⟩ : ByteArray)), (by first | rfl | (simp; done) | (simp [*]; done)), H', ⟨by have := HJ1.out; have := HJ5.out; have := HJ11.out; have := HK4.out; have := HK5.out; first | omega | exact Nat.le_refl _⟩, ⟨by (with_reducible repeat (first | refine blk_drewN ?_ _ | refine blk_drew ?_ | refine blk_alloc ?_ _)); exact BK255.out⟩, ⟨by repeat (first | (with_reducible first | exact HB.out | apply below_alloc | apply pw_below_drewN | apply below_drew1 | refine below_set ?_ GE255.out) | exact HB.out)⟩⟩
               ·rw [if_neg c28] at H
                exact absurd H (by simp)
              ·rw [if_neg c27] at H
               have c27b0 : (x5_5 == 0) = false := beq_eq_false_iff_ne.mpr c27
               have c27b1 : (x5_5 != 0) = true := bne_iff_ne.mpr c27
               (first | rw [c27b0] | rw [c27b1] | rw [c27b2] | (simp only [i64_w, i32_w]; rw [c27b0]) | skip)
               (try simp only [Bool.not_true, Bool.not_false])
               have H' := Aside0.mk H
               clear H
               go_wp2
               go_meet
               case rel => exact ⟨_, (x3_5), (by first | rfl | (simp; done) | (simp [*]; done)), H', ⟨by have := HJ1.out; have := HJ5.out; have := HJ11.out; have := HK4.out; have := HK5.out; first | omega | exact Nat.le_refl _⟩, ⟨by (with_reducible repeat (first | refine blk_drewN ?_ _ | refine blk_drew ?_ | refine blk_alloc ?_ _)); exact BK255.out⟩, ⟨by repeat (first | (with_reducible first | exact HB.out | apply below_alloc | apply pw_below_drewN | apply below_drew1 | refine below_set ?_ GE255.out) | exact HB.out)⟩⟩
             case rest =>
              clear HC25
              clear c24b0 hcz26_0 hcz26_1 hcz26_2 hcz26_3 hcz26_4 hfz26_0 hfz26_1 hfz26_2 hfz26_3 hfz26_4
              obtain ⟨kq, x3_24, rfl, HA, HJ24, BK255, HB⟩ := hcut
              cases kq with
              | zero => exact absurd HA.out (by simp [idiomref07_text.j5])
              | succ kj24 =>
               have H := HA.out
               clear HA
               simp only [idiomref07_text.j5] at H
               by_cases c29 : x3_24.size + 1 ≤ 9223372036854775807
               ·rw [if_pos c29] at H
                have c29b0 := eq_true c29
                have c29b1 : decide (x3_24.size + 1 ≤ 9223372036854775807) = true := decide_eq_true c29
                try have c29b2 : (9223372036854775807 < x3_24.size + 1) = False := eq_false (Nat.not_lt.2 c29)
                (try (have c29b3 := c29b2; simp only [ByteArray.size_append, sz1_, sz2_, sz3_] at c29b3))
                by_cases c30 : 0 ≤ x5_5
                ·rw [if_pos c30] at H
                 have c30b0 : decide (0 ≤ x5_5) = true := decide_eq_true c30
                 clear c30
                 by_cases c31 : x5_5 < (l0_4.length : Int)
                 ·rw [if_pos c31] at H
                  have c31b0 : decide (x5_5 < (l0_4.length : Int)) = true := decide_eq_true c31
                  clear c31
                  by_cases c32 : (x3_24 ++ (⟨#[45]⟩ : ByteArray)).size + ((rd_T39 l0_4 x5_5).f0).size ≤ 9223372036854775807
                  ·rw [if_pos c32] at H
                   have c32b0 := eq_true c32
                   have c32b1 : decide ((x3_24 ++ (⟨#[45]⟩ : ByteArray)).size + ((rd_T39 l0_4 x5_5).f0).size ≤ 9223372036854775807) = true := decide_eq_true c32
                   try have c32b2 : (9223372036854775807 < (x3_24 ++ (⟨#[45]⟩ : ByteArray)).size + ((rd_T39 l0_4 x5_5).f0).size) = False := eq_false (Nat.not_lt.2 c32)
                   (try (have c32b3 := c32b2; simp only [ByteArray.size_append, sz1_, sz2_, sz3_] at c32b3))
                   by_cases c33 : ((rd_T39 l0_4 x5_5).f1).toList = ([] : List UInt8)
                   ·rw [if_pos c33] at H
                    have c33b0 : (((rd_T39 l0_4 x5_5).f1).toList == ([] : List UInt8)) = true := beq_iff_eq.mpr c33
                    have c33b1 : (((rd_T39 l0_4 x5_5).f1).toList != ([] : List UInt8)) = false := bne_eq_false_iff_eq.mpr c33
                    have c33b2 : ((rd_T39 l0_4 x5_5).f1).toList.isEmpty = true := List.isEmpty_iff.mpr c33
                    clear c33
                    have H' := Aside0.mk H
                    clear H
                    obtain ⟨hcz34_0, hcz34_1, hcz34_2, hcz34_3, hcz34_4, hfz34_0, hfz34_1, hfz34_2, hfz34_3, hfz34_4⟩ := c5_ BK255
                    have p257 : 0 ≤ (x5_5 : Int) := of_decide_eq_true (by first | (with_reducible assumption) | assumption)
                    have q257 : x5_5 < (l0_4.length : Int) := of_decide_eq_true (by first | (with_reducible assumption) | assumption)
                    obtain ⟨ad257, e257, hx257_0, hx257_1⟩ := at_T39 HR0_4.out x5_5 p257 q257
                    cases e257
                    replace hx257_0 := (HB.out.cell (World.block_lt_of_cell? w _ hx257_0)).trans hx257_0
                    replace hx257_1 := (HB.out.cell (World.block_lt_of_cell? w _ hx257_1)).trans hx257_1
                    replace p257 := eq_true p257
                    replace q257 := eq_true q257
                    have p258 : 0 ≤ (x5_5 : Int) := of_decide_eq_true (by first | (with_reducible assumption) | assumption)
                    have q258 : x5_5 < (l0_4.length : Int) := of_decide_eq_true (by first | (with_reducible assumption) | assumption)
                    obtain ⟨ad258, e258, hx258_0, hx258_1⟩ := at_T39 HR0_4.out x5_5 p258 q258
                    obtain rfl : ad257 = ad258 := (by injection e258)
                    replace hx258_0 := (HB.out.cell (World.block_lt_of_cell? w _ hx258_0)).trans hx258_0
                    replace hx258_1 := (HB.out.cell (World.block_lt_of_cell? w _ hx258_1)).trans hx258_1
                    replace p258 := eq_true p258
                    replace q258 := eq_true q258
                    go_wp2
                    go_roundg kj24
                    case measure => have := HJ1.out; have := HJ5.out; have := HJ11.out; have := HK4.out; have := HK5.out; have := HJ24.out; omega
                    case rel => exact ⟨((x3_24 ++ (⟨#[45]⟩ : ByteArray)) ++ ((rd_T39 l0_4 x5_5).f0)), (wrap64 (x5_5 + 1)), (by first | rfl | (simp; done) | (simp [*]; done)), (by first | rfl | (simp; done) | (simp [*]; done)), H', ⟨by have := HJ1.out; have := HJ5.out; have := HJ11.out; have := HK4.out; have := HK5.out; have := HJ24.out; omega⟩, ⟨by (with_reducible repeat (first | refine blk_drewN ?_ _ | refine blk_drew ?_ | refine blk_alloc ?_ _)); exact BK255.out⟩, ⟨by repeat (first | (with_reducible first | exact HB.out | apply below_alloc | apply pw_below_drewN | apply below_drew1 | refine below_set ?_ GE255.out) | exact HB.out)⟩⟩
                   ·rw [if_neg c33] at H
                    have c33b0 : (((rd_T39 l0_4 x5_5).f1).toList == ([] : List UInt8)) = false := beq_eq_false_iff_ne.mpr c33
                    have c33b1 : (((rd_T39 l0_4 x5_5).f1).toList != ([] : List UInt8)) = true := bne_iff_ne.mpr c33
                    have c33b2 : ((rd_T39 l0_4 x5_5).f1).toList.isEmpty = false := List.isEmpty_eq_false_iff.mpr c33
                    by_cases c35 : ((x3_24 ++ (⟨#[45]⟩ : ByteArray)) ++ ((rd_T39 l0_4 x5_5).f0)).size + 1 ≤ 9223372036854775807
                    ·rw [if_pos c35] at H
                     have c35b0 := eq_true c35
                     have c35b1 : decide (((x3_24 ++ (⟨#[45]⟩ : ByteArray)) ++ ((rd_T39 l0_4 x5_5).f0)).size + 1 ≤ 9223372036854775807) = true := decide_eq_true c35
                     try have c35b2 : (9223372036854775807 < ((x3_24 ++ (⟨#[45]⟩ : ByteArray)) ++ ((rd_T39 l0_4 x5_5).f0)).size + 1) = False := eq_false (Nat.not_lt.2 c35)
                     (try (have c35b3 := c35b2; simp only [ByteArray.size_append, sz1_, sz2_, sz3_] at c35b3))
                     by_cases c36 : (((x3_24 ++ (⟨#[45]⟩ : ByteArray)) ++ ((rd_T39 l0_4 x5_5).f0)) ++ (⟨#[45]⟩ : ByteArray)).size + ((rd_T39 l0_4 x5_5).f1).size ≤ 9223372036854775807
                     ·rw [if_pos c36] at H
                      have c36b0 := eq_true c36
                      have c36b1 : decide ((((x3_24 ++ (⟨#[45]⟩ : ByteArray)) ++ ((rd_T39 l0_4 x5_5).f0)) ++ (⟨#[45]⟩ : ByteArray)).size + ((rd_T39 l0_4 x5_5).f1).size ≤ 9223372036854775807) = true := decide_eq_true c36
                      try have c36b2 : (9223372036854775807 < (((x3_24 ++ (⟨#[45]⟩ : ByteArray)) ++ ((rd_T39 l0_4 x5_5).f0)) ++ (⟨#[45]⟩ : ByteArray)).size + ((rd_T39 l0_4 x5_5).f1).size) = False := eq_false (Nat.not_lt.2 c36)
                      (try (have c36b3 := c36b2; simp only [ByteArray.size_append, sz1_, sz2_, sz3_] at c36b3))
                      have H' := Aside0.mk H
                      clear H
                      obtain ⟨hcz37_0, hcz37_1, hcz37_2, hcz37_3, hcz37_4, hfz37_0, hfz37_1, hfz37_2, hfz37_3, hfz37_4⟩ := c5_ BK255
                      have p257 : 0 ≤ (x5_5 : Int) := of_decide_eq_true (by first | (with_reducible assumption) | assumption)
                      have q257 : x5_5 < (l0_4.length : Int) := of_decide_eq_true (by first | (with_reducible assumption) | assumption)
                      obtain ⟨ad257, e257, hx257_0, hx257_1⟩ := at_T39 HR0_4.out x5_5 p257 q257
                      cases e257
                      replace hx257_0 := (HB.out.cell (World.block_lt_of_cell? w _ hx257_0)).trans hx257_0
                      replace hx257_1 := (HB.out.cell (World.block_lt_of_cell? w _ hx257_1)).trans hx257_1
                      replace p257 := eq_true p257
                      replace q257 := eq_true q257
                      have p258 : 0 ≤ (x5_5 : Int) := of_decide_eq_true (by first | (with_reducible assumption) | assumption)
                      have q258 : x5_5 < (l0_4.length : Int) := of_decide_eq_true (by first | (with_reducible assumption) | assumption)
                      obtain ⟨ad258, e258, hx258_0, hx258_1⟩ := at_T39 HR0_4.out x5_5 p258 q258
                      obtain rfl : ad257 = ad258 := (by injection e258)
                      replace hx258_0 := (HB.out.cell (World.block_lt_of_cell? w _ hx258_0)).trans hx258_0
                      replace hx258_1 := (HB.out.cell (World.block_lt_of_cell? w _ hx258_1)).trans hx258_1
                      replace p258 := eq_true p258
                      replace q258 := eq_true q258
                      have p259 : 0 ≤ (x5_5 : Int) := of_decide_eq_true (by first | (with_reducible assumption) | assumption)
                      have q259 : x5_5 < (l0_4.length : Int) := of_decide_eq_true (by first | (with_reducible assumption) | assumption)
                      obtain ⟨ad259, e259, hx259_0, hx259_1⟩ := at_T39 HR0_4.out x5_5 p259 q259
                      obtain rfl : ad257 = ad259 := (by injection e259)
                      replace hx259_0 := (HB.out.cell (World.block_lt_of_cell? w _ hx259_0)).trans hx259_0
                      replace hx259_1 := (HB.out.cell (World.block_lt_of_cell? w _ hx259_1)).trans hx259_1
                      replace p259 := eq_true p259
                      replace q259 := eq_true q259
                      go_wp2
                      go_roundg kj24
                      case measure => have := HJ1.out; have := HJ5.out; have := HJ11.out; have := HK4.out; have := HK5.out; have := HJ24.out; omega
                      case rel => exact ⟨((((x3_24 ++ (⟨#[45]⟩ : ByteArray)) ++ ((rd_T39 l0_4 x5_5).f0)) ++ (⟨#[45]⟩ : ByteArray)) ++ ((rd_T39 l0_4 x5_5).f1)), (wrap64 (x5_5 + 1)), (by first | rfl | (simp; done) | (simp [*]; done)), (by first | rfl | (simp; done) | (simp [*]; done)), H', ⟨by have := HJ1.out; have := HJ5.out; have := HJ11.out; have := HK4.out; have := HK5.out; have := HJ24.out; omega⟩, ⟨by (with_reducible repeat (first | refine blk_drewN ?_ _ | refine blk_drew ?_ | refine blk_alloc ?_ _)); exact BK255.out⟩, ⟨by repeat (first | (with_reducible first | exact HB.out | apply below_alloc | apply pw_below_drewN | apply below_drew1 | refine below_set ?_ GE255.out) | exact HB.out)⟩⟩
                     ·rw [if_neg c36] at H
                      exact absurd H (by simp)
                    ·rw [if_neg c35] at H
                     exact absurd H (by simp)
                  ·rw [if_neg c32] at H
                   exact absurd H (by simp)
                 ·rw [if_neg c31] at H
                  exact absurd H (by simp)
                ·rw [if_neg c30] at H
                 exact absurd H (by simp)
               ·rw [if_neg c29] at H
                exact absurd H (by simp)
            ·rw [if_neg c24] at H
             have c24b0 : decide (x5_5 < (l0_4.length : Int)) = false := decide_eq_false c24
             clear c24
             obtain rfl := Option.some.inj H
             obtain ⟨hcz38_0, hcz38_1, hcz38_2, hcz38_3, hcz38_4, hfz38_0, hfz38_1, hfz38_2, hfz38_3, hfz38_4⟩ := c5_ BK255
             go_wp2
             go_ret
             exact ⟨by first | rfl | (simp [errW_none, errW_some] <;> rfl) | (simp [*, errW_none, errW_some] <;> rfl), by repeat (first | (with_reducible first | exact HB.out | apply below_alloc | apply pw_below_drewN | apply below_drew1 | refine below_set ?_ GE255.out) | exact HB.out)⟩
end Go.Proofs.YtphjhbppjakocaaGreatDoor.PTag
