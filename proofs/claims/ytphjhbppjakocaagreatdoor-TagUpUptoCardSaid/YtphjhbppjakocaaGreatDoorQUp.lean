/- Printed by a program (the kit's print.py with changes of this session) out of Lean's own print of the program: functions of the program as plain Lean functions, and that each call comes to what they say; conditions: those that each theorem states. Not trusted: Lean checks it. -/
import Derived.Test.YtphjhbppjakocaaGreatDoorPU0
import Derived.Test.YtphjhbppjakocaaGreatDoorBrief
import Derived.Test.YtphjhbppjakocaaGreatDoorPU12
import Derived.Test.YtphjhbppjakocaaGreatDoorQMapsU
import Derived.Test.YtphjhbppjakocaaGreatDoorPU7
import Derived.Test.YtphjhbppjakocaaGreatDoorPU18
import Derived.Test.YtphjhbppjakocaaGreatDoorPU22
import Derived.Test.YtphjhbppjakocaaGreatDoorQRoot
import Derived.Test.YtphjhbppjakocaaGreatDoorPU24
namespace Go.Proofs.YtphjhbppjakocaaGreatDoor.PTag
open Go.RowKit Go.Proofs.YtphjhbppjakocaaGreatDoorW.PrintWords Go.Proofs.YtphjhbppjakocaaGreatDoorW.PrintLast Go.Proofs.YtphjhbppjakocaaGreatDoorW.PrintMore
attribute [local go_sem] max2_int min2_int max_two min_two max_three min_three max_four min_four
set_option linter.unusedVariables false
set_option linter.unusedSimpArgs false
attribute [local go_sem] setCell_drewN_ cell_put_twice_ gtr_less_
mutual
def idiomlaw07_TagUp.j0 : Nat → List (S25) → Bool → Option (Bool)
 | 0, _, _ => none
 | k + 1, x3, x42 => if x42 = true then (some false) else (idiomlaw07_TagUp.l0 k x3 1)
def idiomlaw07_TagUp.l0 : Nat → List (S25) → Int → Option (Bool)
 | 0, _, _ => none
 | k + 1, x3, x5 => if x5 < (x3.length : Int) then (if 0 ≤ (wrap64 (x5 - 1)) then (if (wrap64 (x5 - 1)) < (x3.length : Int) then (if 0 ≤ x5 then ((tag_Within.f k ((rd_T25 x3 (wrap64 (x5 - 1))).f0) ((rd_T25 x3 (wrap64 (x5 - 1))).f1) ((rd_T25 x3 (wrap64 (x5 - 1))).f2) ((rd_T25 x3 (wrap64 (x5 - 1))).f3) ((rd_T25 x3 (wrap64 (x5 - 1))).f4) ((rd_T25 x3 x5).f0) ((rd_T25 x3 x5).f1) ((rd_T25 x3 x5).f2) ((rd_T25 x3 x5).f3) ((rd_T25 x3 x5).f4)).bind fun bt298 => (if bt298.2 = 0 then (if bt298.1 = true then ((idiomref07_Same.f k ((rd_T25 x3 (wrap64 (x5 - 1))).f0) ((rd_T25 x3 (wrap64 (x5 - 1))).f1) ((rd_T25 x3 (wrap64 (x5 - 1))).f2) ((rd_T25 x3 (wrap64 (x5 - 1))).f3) ((rd_T25 x3 (wrap64 (x5 - 1))).f4) ((rd_T25 x3 x5).f0) ((rd_T25 x3 x5).f1) ((rd_T25 x3 x5).f2) ((rd_T25 x3 x5).f3) ((rd_T25 x3 x5).f4)).bind fun t302 => (idiomlaw07_TagUp.j2 k x3 x5 t302)) else (idiomlaw07_TagUp.j2 k x3 x5 true)) else (idiomlaw07_TagUp.j2 k x3 x5 true))) else (none)) else (none)) else (none)) else ((idiomlaw07_awake.f k).bind fun t303 => (some t303))
def idiomlaw07_TagUp.j2 : Nat → List (S25) → Int → Bool → Option (Bool)
 | 0, _, _, _ => none
 | k + 1, x3, x5, x79 => if x79 = true then (some false) else (idiomlaw07_TagUp.l0 k x3 (wrap64 (x5 + 1)))
end
def idiomlaw07_TagUp.f (k : Nat) (a0_0 : ByteArray) (a0_1 : ByteArray) (a0_2 : ByteArray) (l0_3 : List ByteArray) (l0_4 : List (S39)) : Option (Bool) := (tag_Chain.f k a0_0 a0_1 a0_2 l0_3 l0_4 ([] : List (S45))).bind fun bt286 => (if bt286.2 = 0 then (if (bt286.1.length : Int) = 0 then (idiomlaw07_TagUp.j0 k bt286.1 true) else (if 0 < (bt286.1.length : Int) then ((idiomref07_Same.f k ((rd_T25 bt286.1 0).f0) ((rd_T25 bt286.1 0).f1) ((rd_T25 bt286.1 0).f2) ((rd_T25 bt286.1 0).f3) ((rd_T25 bt286.1 0).f4) a0_0 a0_1 a0_2 l0_3 l0_4).bind fun t293 => (if t293 = true then (if 0 ≤ (wrap64 ((bt286.1.length : Int) - 1)) then (if (wrap64 ((bt286.1.length : Int) - 1)) < (bt286.1.length : Int) then ((idiomref07_Root.f k ((rd_T25 bt286.1 (wrap64 ((bt286.1.length : Int) - 1))).f0) ((rd_T25 bt286.1 (wrap64 ((bt286.1.length : Int) - 1))).f1) ((rd_T25 bt286.1 (wrap64 ((bt286.1.length : Int) - 1))).f2) ((rd_T25 bt286.1 (wrap64 ((bt286.1.length : Int) - 1))).f3) ((rd_T25 bt286.1 (wrap64 ((bt286.1.length : Int) - 1))).f4)).bind fun t295 => (idiomlaw07_TagUp.j0 k bt286.1 (!t295))) else (none)) else (none)) else (idiomlaw07_TagUp.j0 k bt286.1 true))) else (none))) else ((idiomref07_Check.f k a0_0 a0_1 a0_2 l0_3 l0_4).bind fun t290 => (if bt286.2 = t290 then ((idiomlaw07_awake.f k).bind fun t291 => (some t291)) else (some false))))
def idiomlaw07_TagUp.T4 : Bool × List (List Nat × List Nat) := (true, [([], []), ([0], [0]), ([1], [1]), ([2], [2]), ([3], [3]), ([4, 3], [3, 4]), ([5, 3], [3, 5]), ([3], [3]), ([6, 7, 3, 3], [3, 6, 7]), ([8, 3], [3, 8]), ([3, 9], [3, 9]), ([10, 8], [10]), ([11], [11]), ([11], [11]), ([13, 11], [11, 13]), ([14, 11], [11, 14]), ([12, 15, 11], [11, 12, 15]), ([16, 11], [11, 16]), ([17, 11, 11], [11, 17]), ([18, 11], [11, 18]), ([11, 19], [11, 19])])
def idiomlaw07_TagUp.B4 : List Nat := [0, 1, 3, 7, 15, 31, 63, 15, 255, 511, 1023, 2047, 4095, 4095, 12287, 28671, 65535, 131071, 262143, 524287, 1048575]
theorem idiomlaw07_TagUp.tab4 : rtab .any (opsOf Tryz.f3 4) = idiomlaw07_TagUp.T4 := by kernel_rfl
theorem idiomlaw07_TagUp.bits4 : waitsOk idiomlaw07_TagUp.T4.2 idiomlaw07_TagUp.B4 = true := by kernel_rfl
def idiomlaw07_TagUp.T9 : Bool × List (List Nat × List Nat) := (true, [([], []), ([], []), ([1], [1]), ([0, 2], [0, 2]), ([3], [3]), ([], []), ([], []), ([5, 6], [5, 6]), ([7], [7]), ([4, 8], [4, 8]), ([9], [9]), ([10], [10]), ([10], [10]), ([11, 9, 0, 1, 2, 3, 4, 5, 6, 7, 8, 9, 10, 11], [11]), ([12, 13, 0, 1, 2, 3, 4, 5, 6, 7, 8, 9, 10, 11, 12, 13], [12])])
def idiomlaw07_TagUp.B9 : List Nat := [0, 0, 2, 7, 15, 0, 0, 96, 224, 511, 1023, 2047, 2047, 4095, 16383]
theorem idiomlaw07_TagUp.tab9 : rtab .any (opsOf Tryz.f3 9) = idiomlaw07_TagUp.T9 := by kernel_rfl
theorem idiomlaw07_TagUp.bits9 : waitsOk idiomlaw07_TagUp.T9.2 idiomlaw07_TagUp.B9 = true := by kernel_rfl
def idiomlaw07_TagUp.T10 : Bool × List (List Nat × List Nat) := (true, [([], []), ([0], [0]), ([1], [1]), ([2], [2]), ([3, 2], [2, 3]), ([2, 4], [2, 4]), ([5, 2], [5]), ([6], [6]), ([6], [6]), ([8, 6], [6, 8]), ([7, 9, 6], [6, 7, 9]), ([10, 6], [6, 10]), ([6], [6]), ([6], [6]), ([12, 13, 6], [6, 12, 13]), ([14, 6], [6, 14]), ([11, 15, 6, 6], [6, 11, 15]), ([6, 16], [6, 16])])
def idiomlaw07_TagUp.B10 : List Nat := [0, 1, 3, 7, 15, 31, 63, 127, 127, 383, 1023, 2047, 127, 127, 12415, 28799, 65535, 131071]
theorem idiomlaw07_TagUp.tab10 : rtab .any (opsOf Tryz.f3 10) = idiomlaw07_TagUp.T10 := by kernel_rfl
theorem idiomlaw07_TagUp.bits10 : waitsOk idiomlaw07_TagUp.T10.2 idiomlaw07_TagUp.B10 = true := by kernel_rfl
set_option maxHeartbeats 8000000 in
set_option maxRecDepth 100000 in
theorem idiomlaw07_TagUp.calls (k : Nat) (a0_0 : ByteArray) (a0_1 : ByteArray) (a0_2 : ByteArray) (A0_3 : Option Addr) (c0_3 : Nat) (l0_3 : List ByteArray) (A0_4 : Option Addr) (c0_4 : Nat) (l0_4 : List (S39)) (r : Bool) (w : World) (hr0_3 : Kd.C Kd.string w A0_3 l0_3.length l0_3) (hc0_3 : l0_3.length ≤ c0_3) (hr0_4 : Kd.C k39 w A0_4 l0_4.length l0_4) (hc0_4 : l0_4.length ≤ c0_4) (hT : Tbl w) (h : idiomlaw07_TagUp.f k a0_0 a0_1 a0_2 l0_3 l0_4 = some r) :
  Calls Tryz.prog 3 #[.agg #[.string a0_0, .string a0_1, .string a0_2, .slice A0_3 l0_3.length c0_3, .slice A0_4 l0_4.length c0_4]] w fun e w' => e = .returned (.bool r) ∧ Below w.heap.size w w' := by
 have hu25 := Tryz.underlying25
 have HR0_3 := Aside0.mk hr0_3
 have HC0_3 := Aside0.mk hc0_3
 clear hr0_3 hc0_3
 have HR0_4 := Aside0.mk hr0_4
 have HC0_4 := Aside0.mk hc0_4
 clear hr0_4 hc0_4
 have HB := Aside0.mk (Below.refl w.heap.size w)
 have HT := Aside0.mk hT
 clear hT
 have H : ((tag_Chain.f k a0_0 a0_1 a0_2 l0_3 l0_4 ([] : List (S45))).bind fun bt286 => (if bt286.2 = 0 then (if (bt286.1.length : Int) = 0 then (idiomlaw07_TagUp.j0 k bt286.1 true) else (if 0 < (bt286.1.length : Int) then ((idiomref07_Same.f k ((rd_T25 bt286.1 0).f0) ((rd_T25 bt286.1 0).f1) ((rd_T25 bt286.1 0).f2) ((rd_T25 bt286.1 0).f3) ((rd_T25 bt286.1 0).f4) a0_0 a0_1 a0_2 l0_3 l0_4).bind fun t293 => (if t293 = true then (if 0 ≤ (wrap64 ((bt286.1.length : Int) - 1)) then (if (wrap64 ((bt286.1.length : Int) - 1)) < (bt286.1.length : Int) then ((idiomref07_Root.f k ((rd_T25 bt286.1 (wrap64 ((bt286.1.length : Int) - 1))).f0) ((rd_T25 bt286.1 (wrap64 ((bt286.1.length : Int) - 1))).f1) ((rd_T25 bt286.1 (wrap64 ((bt286.1.length : Int) - 1))).f2) ((rd_T25 bt286.1 (wrap64 ((bt286.1.length : Int) - 1))).f3) ((rd_T25 bt286.1 (wrap64 ((bt286.1.length : Int) - 1))).f4)).bind fun t295 => (idiomlaw07_TagUp.j0 k bt286.1 (!t295))) else (none)) else (none)) else (idiomlaw07_TagUp.j0 k bt286.1 true))) else (none))) else ((idiomref07_Check.f k a0_0 a0_1 a0_2 l0_3 l0_4).bind fun t290 => (if bt286.2 = t290 then ((idiomlaw07_awake.f k).bind fun t291 => (some t291)) else (some false))))) = some r := h
 clear h
 replace H := Option.bind_eq_some_iff.mp H
 obtain ⟨⟨t286, t289⟩, A20, H⟩ := H
 try dsimp only at H
 have A2 := Aside0.mk A20
 clear A20
 by_cases c3 : t289 = 0
 ·rw [if_pos c3] at H
  have c3b0 : (t289 == 0) = true := beq_iff_eq.mpr c3
  have c3b1 : (t289 != 0) = false := bne_eq_false_iff_eq.mpr c3
  clear c3
  have HC4 := Aside0.mk H
  clear H
  go_enter Tryz.func3, Tryz.ntmps3
  go_upto_region 4 with (first | ((with_reducible refine gate_dst (N := 1) rfl ?_); (try (refine gate_guard (by rfl) ?_; dsimp only)); refine box_event ?hg (N := 1) ?hd (cs := #[.string a0_0, .string a0_1, .string a0_2, .slice A0_3 l0_3.length c0_3, .slice A0_4 l0_4.length c0_4]) (t := 25) ?hr ?_; (case hd => rfl); (case hg => rfl); (case hr => first | (go_simp; done) | (go_simp; rfl)); intro gb285 hg w5 hbox hb; have BK285 := Aside0.mk (hbox); have GW285 := Aside0.mk ((by rw [hg]; exact hz_ : w.heap.size ≤ gb285)); have GE285 := Aside0.mk ((by rw [hg]; exact hz_ : w.heap.size ≤ gb285)); replace HB := Aside0.mk (below_step hb_ hb); clear hb hbox hg; obtain ⟨hcz6_0, hcz6_1, hcz6_2, hcz6_3, hcz6_4, hfz6_0, hfz6_1, hfz6_2, hfz6_3, hfz6_4⟩ := c5_ BK285) | ((with_reducible refine gate_callee (f := 10) rfl ?_); refine gb_ (some 10) Tryz.func10 #[.agg #[.string a0_0, .string a0_1, .string a0_2, .slice A0_3 l0_3.length c0_3, .slice A0_4 l0_4.length c0_4], .slice none 0 0] ?_; (refine (tag_Chain.calls k a0_0 a0_1 a0_2 _ _ l0_3 _ _ l0_4 _ _ ([] : List (S45)) t286 t289 _ ?side1 ?side2 ?side3 ?side4 ?side5 ?side6 (Tbl.below HT.out (by repeat (first | (with_reducible first | exact HB.out | apply below_alloc | apply pw_below_drewN | apply below_drew1 | refine below_set ?_ GE285.out) | exact HB.out))) A2.out).mono ?_); (case side1 => repeat (first | exact (Kd.C_below HR0_3.out HB.out) | (with_reducible refine Kd.C_alloc ?_ _) | (with_reducible refine Kd.C_drewN ?_ _) | (with_reducible refine Kd.C_drew ?_))); (case side2 => exact HC0_3.out); (case side3 => repeat (first | exact (Kd.C_below HR0_4.out HB.out) | (with_reducible refine Kd.C_alloc ?_ _) | (with_reducible refine Kd.C_drewN ?_ _) | (with_reducible refine Kd.C_drew ?_))); (case side4 => exact HC0_4.out); (case side5 => exact Kd.C_nil _ _); (case side6 => exact Nat.le_refl _); rintro e w7 ⟨v287, rfl, ho0, hb⟩; refine ⟨_, rfl, ?_⟩; have HO288 := Aside0.mk (Kd.S_lower (Kd.S_newB ho0 (g := gb285) (o := .cells #[.string a0_0, .string a0_1, .string a0_2, .slice A0_3 l0_3.length c0_3, .slice A0_4 l0_4.length c0_4] 25 (0, 0)) (bk_ BK285)) (below_size (by repeat (first | (with_reducible first | exact HB.out | apply below_alloc | apply pw_below_drewN | apply below_drew1 | refine below_set ?_ GE285.out) | exact HB.out)))); replace BK285 := Aside0.mk (blk_below (g := gb285) (o := .cells #[.string a0_0, .string a0_1, .string a0_2, .slice A0_3 l0_3.length c0_3, .slice A0_4 l0_4.length c0_4] 25 (0, 0)) (bk_ BK285) hb); replace HB := Aside0.mk (below_step (by repeat (first | (with_reducible first | exact HB.out | apply below_alloc | apply pw_below_drewN | apply below_drew1 | refine below_set ?_ GE285.out) | exact HB.out)) hb); try clear hb; (try clear ho0)))
  (try simp only [Act.put, List.setIfInBounds_toArray, List.set_cons_zero, List.set_cons_succ])
  go_cut [42] (fun v42 wc => ∃ (kq : Nat) (x42_3 : Bool), v42 = .bool x42_3 ∧ Aside0 (idiomlaw07_TagUp.j0 kq t286 x42_3 = some r) ∧ Aside0 (kq ≤ k) ∧ Aside0 (Kd.S k25 25 wc w.heap.size (fun k_ => k_ ≠ gb285) v287 t286) ∧ Aside0 (wc.heap[gb285]? = some (.cells #[.string a0_0, .string a0_1, .string a0_2, (.slice A0_3 l0_3.length c0_3), (.slice A0_4 l0_4.length c0_4)] 25 (0, 0))) ∧ Aside0 (Below w.heap.size w wc))
  case first =>
   have H := HC4.out
   clear HC4
   by_cases c8 : (t286.length : Int) = 0
   ·rw [if_pos c8] at H
    have c8b0 : ((t286.length : Int) == 0) = true := beq_iff_eq.mpr c8
    have c8b1 : ((t286.length : Int) != 0) = false := bne_eq_false_iff_eq.mpr c8
    clear c8
    (first | rw [c8b0] | rw [c8b1] | rw [c8b2] | (simp only [i64_w, i32_w]; rw [c8b0]) | skip)
    (try simp only [Bool.not_true, Bool.not_false])
    have H' := Aside0.mk H
    clear H
    try go_wp2
    replace HO288 := Aside0.mk (Kd.S_drew HO288.out)
    replace BK285 := Aside0.mk (blk_drew BK285.out)
    replace HB := Aside0.mk (below_drew1 HB.out)
    obtain ⟨Ao10, co10, eo10⟩ := Kd.S_slice HO288.out
    (first | subst eo10 | (injection eo10 with f1_ f2_ f3_; have f4_ := f1_.symm; have f5_ := f3_.symm; clear f1_ f2_ f3_; subst f4_; subst f5_))
    refine start_ (n := 21) (S := fun w' => True) (ds := []) (bmp 21 0) (by kernel_rfl) rfl rfl trivial (fun hHeld => ?_); refine with_tabW idiomlaw07_TagUp.tab4 idiomlaw07_TagUp.bits4 (fun HT_ HW_ => ?_)
    generalize w7.drew = w9 at HO288 BK285 HB hHeld ⊢
    iterate 21 (first | refine sk_ HT_ ?_ | refine pu_ HT_ ?_)
    refine dg_ HT_ ?_
    try go_wp2
    go_meet
    case rel => exact ⟨_, (true), (by first | rfl | (simp; done) | (simp [*]; done)), H', ⟨by first | omega | exact Nat.le_refl _⟩, ⟨by (with_reducible repeat (first | apply Kd.S_alloc | apply Kd.S_drewN | apply Kd.S_drew)); exact Kd.S_mono HO288.out (fun _ hk => hk.2)⟩, ⟨by (with_reducible repeat (first | refine blk_drewN ?_ _ | refine blk_drew ?_ | refine blk_alloc ?_ _)); exact BK285.out⟩, ⟨by repeat (first | (with_reducible first | exact HB.out | apply below_alloc | apply pw_below_drewN | apply below_drew1 | refine below_set ?_ GE285.out) | exact HB.out)⟩⟩
   ·rw [if_neg c8] at H
    have c8b0 : ((t286.length : Int) == 0) = false := beq_eq_false_iff_ne.mpr c8
    have c8b1 : ((t286.length : Int) != 0) = true := bne_iff_ne.mpr c8
    have c8b2 : ¬ (t286 = []) := fun h_ => c8 (by rw [h_]; rfl)
    (first | rw [c8b0] | rw [c8b1] | rw [c8b2] | (simp only [i64_w, i32_w]; rw [c8b0]) | skip)
    (try simp only [Bool.not_true, Bool.not_false])
    by_cases c11 : 0 < (t286.length : Int)
    ·rw [if_pos c11] at H
     have c11b0 : decide (0 < (t286.length : Int)) = true := decide_eq_true c11
     have c11b1 : decide (0 < t286.length) = true := decide_eq_true (by omega)
     clear c11
     replace H := Option.bind_eq_some_iff.mp H
     obtain ⟨t293, A120, H⟩ := H
     try dsimp only at H
     have A12 := Aside0.mk A120
     clear A120
     by_cases c13 : t293 = true
     ·subst c13
      have H1 : (if 0 ≤ (wrap64 ((t286.length : Int) - 1)) then (if (wrap64 ((t286.length : Int) - 1)) < (t286.length : Int) then ((idiomref07_Root.f k ((rd_T25 t286 (wrap64 ((t286.length : Int) - 1))).f0) ((rd_T25 t286 (wrap64 ((t286.length : Int) - 1))).f1) ((rd_T25 t286 (wrap64 ((t286.length : Int) - 1))).f2) ((rd_T25 t286 (wrap64 ((t286.length : Int) - 1))).f3) ((rd_T25 t286 (wrap64 ((t286.length : Int) - 1))).f4)).bind fun t295 => (idiomlaw07_TagUp.j0 k t286 (!t295))) else (none)) else (none)) = some r := by rw [if_pos rfl] at H; exact H
      clear H
      have H := H1
      clear H1
      obtain ⟨ji14, hji14⟩ : ∃ j_ : Int, (wrap64 ((t286.length : Int) - 1)) = j_ := ⟨_, rfl⟩
      replace H : (if 0 ≤ (ji14) then (if (ji14) < (t286.length : Int) then ((idiomref07_Root.f k ((rd_T25 t286 (ji14)).f0) ((rd_T25 t286 (ji14)).f1) ((rd_T25 t286 (ji14)).f2) ((rd_T25 t286 (ji14)).f3) ((rd_T25 t286 (ji14)).f4)).bind fun t295 => (idiomlaw07_TagUp.j0 k t286 (!t295))) else (none)) else (none)) = some r := by first | (rw [hji14] at H; exact H) | (simp only [hji14] at H ⊢; exact H)
      (try rw [hji14] at A12)
      have hji14w : (IntKind.i64.wrap ((t286.length : Int) - 1)) = ji14 := (i64_w _).trans hji14
      by_cases c15 : 0 ≤ (ji14)
      ·rw [if_pos c15] at H
       have c15b0 : decide (0 ≤ (ji14)) = true := decide_eq_true c15
       clear c15
       by_cases c16 : (ji14) < (t286.length : Int)
       ·rw [if_pos c16] at H
        have c16b0 : decide ((ji14) < (t286.length : Int)) = true := decide_eq_true c16
        clear c16
        replace H := Option.bind_eq_some_iff.mp H
        obtain ⟨t295, A170, H⟩ := H
        try dsimp only at H
        have A17 := Aside0.mk A170
        clear A170
        have H' := Aside0.mk H
        clear H
        try go_wp2
        replace HO288 := Aside0.mk (Kd.S_drew HO288.out)
        replace BK285 := Aside0.mk (blk_drew BK285.out)
        replace HB := Aside0.mk (below_drew1 HB.out)
        obtain ⟨Ao19, co19, eo19⟩ := Kd.S_slice HO288.out
        (first | subst eo19 | (injection eo19 with f1_ f2_ f3_; have f4_ := f1_.symm; have f5_ := f3_.symm; clear f1_ f2_ f3_; subst f4_; subst f5_))
        have p292 : 0 ≤ (0 : Int) := (by omega)
        have q292 : 0 < (t286.length : Int) := of_decide_eq_true (by first | (with_reducible assumption) | assumption)
        obtain ⟨ad292, A292_3, c292_3, A292_4, c292_4, e292, hx292_0, hx292_1, hx292_2, hx292_3, hx292_4, hl292_3, hi292_3, hl292_4, hi292_4⟩ := at_T25 (Kd.S_reads' HO288.out).2.2 0 p292 q292
        cases e292
        obtain ⟨ce292, hce292, hMe292, hcc292⟩ := Kd.S_get HO288.out z25 0 p292 (by first | exact q292 | exact of_decide_eq_true (by first | (with_reducible assumption) | assumption) | (have e_ := (Kd.S_reads' HO288.out).1; omega))
        obtain ⟨ve292_3, ve292_4, rfl, ge292_3, ge292_4⟩ := k25_openM hMe292
        have hv292_3 := hcc292 3 _ rfl
        rw [add_field _ _ 3 (by omega)] at hv292_3
        replace hv292_3 := Option.some.inj (hv292_3.symm.trans hx292_3)
        rw [hv292_3] at ge292_3
        have HL292_3 := Aside0.mk (show Kd.R Kd.string 9 _ _ _ _ ((rd_T25 t286 0).f3) from ge292_3)
        clear hv292_3 ge292_3
        have hv292_4 := hcc292 4 _ rfl
        rw [add_field _ _ 4 (by omega)] at hv292_4
        replace hv292_4 := Option.some.inj (hv292_4.symm.trans hx292_4)
        rw [hv292_4] at ge292_4
        have HL292_4 := Aside0.mk (show Kd.R k39 39 _ _ _ _ ((rd_T25 t286 0).f4) from ge292_4)
        clear hv292_4 ge292_4
        clear hcc292 hce292
        have qi292 : (0 < t286.length) = True := eq_true (by omega)
        (try rw [show ((0 : Int)).toNat = 0 from rfl] at hx292_0)
        (try rw [show 0 * 5 = 0 from rfl] at hx292_0)
        (try rw [Addr.add_zero'] at hx292_0)
        (try rw [show ((0 : Int)).toNat = 0 from rfl] at hx292_1)
        (try rw [show 0 * 5 = 0 from rfl] at hx292_1)
        (try rw [Addr.add_zero'] at hx292_1)
        (try rw [show ((0 : Int)).toNat = 0 from rfl] at hx292_2)
        (try rw [show 0 * 5 = 0 from rfl] at hx292_2)
        (try rw [Addr.add_zero'] at hx292_2)
        (try rw [show ((0 : Int)).toNat = 0 from rfl] at hx292_3)
        (try rw [show 0 * 5 = 0 from rfl] at hx292_3)
        (try rw [Addr.add_zero'] at hx292_3)
        (try rw [show ((0 : Int)).toNat = 0 from rfl] at hx292_4)
        (try rw [show 0 * 5 = 0 from rfl] at hx292_4)
        (try rw [Addr.add_zero'] at hx292_4)
        have HR292_3 := Aside0.mk hi292_3
        have HC292_3 := Aside0.mk hl292_3
        clear hi292_3 hl292_3
        have HR292_4 := Aside0.mk hi292_4
        have HC292_4 := Aside0.mk hl292_4
        clear hi292_4 hl292_4
        replace p292 := eq_true p292
        replace q292 := eq_true q292
        have p294 : 0 ≤ ((ji14) : Int) := of_decide_eq_true (by first | (with_reducible assumption) | assumption)
        have q294 : (ji14) < (t286.length : Int) := of_decide_eq_true (by first | (with_reducible assumption) | assumption)
        obtain ⟨ad294, A294_3, c294_3, A294_4, c294_4, e294, hx294_0, hx294_1, hx294_2, hx294_3, hx294_4, hl294_3, hi294_3, hl294_4, hi294_4⟩ := at_T25 (Kd.S_reads' HO288.out).2.2 (ji14) p294 q294
        obtain rfl : ad292 = ad294 := (by injection e294)
        obtain ⟨ce294, hce294, hMe294, hcc294⟩ := Kd.S_get HO288.out z25 (ji14) p294 (by first | exact q294 | exact of_decide_eq_true (by first | (with_reducible assumption) | assumption) | (have e_ := (Kd.S_reads' HO288.out).1; omega))
        obtain ⟨ve294_3, ve294_4, rfl, ge294_3, ge294_4⟩ := k25_openM hMe294
        have hv294_3 := hcc294 3 _ rfl
        rw [add_field _ _ 3 (by omega)] at hv294_3
        replace hv294_3 := Option.some.inj (hv294_3.symm.trans hx294_3)
        rw [hv294_3] at ge294_3
        have HL294_3 := Aside0.mk (show Kd.R Kd.string 9 _ _ _ _ ((rd_T25 t286 (ji14)).f3) from ge294_3)
        clear hv294_3 ge294_3
        have hv294_4 := hcc294 4 _ rfl
        rw [add_field _ _ 4 (by omega)] at hv294_4
        replace hv294_4 := Option.some.inj (hv294_4.symm.trans hx294_4)
        rw [hv294_4] at ge294_4
        have HL294_4 := Aside0.mk (show Kd.R k39 39 _ _ _ _ ((rd_T25 t286 (ji14)).f4) from ge294_4)
        clear hv294_4 ge294_4
        clear hcc294 hce294
        have HR294_3 := Aside0.mk hi294_3
        have HC294_3 := Aside0.mk hl294_3
        clear hi294_3 hl294_3
        have HR294_4 := Aside0.mk hi294_4
        have HC294_4 := Aside0.mk hl294_4
        clear hi294_4 hl294_4
        replace p294 := eq_true p294
        replace q294 := eq_true q294
        refine start_ (n := 21) (S := fun w' => w'.cell? ⟨gb285, 0, none⟩ = some (.string a0_0) ∧ w'.cell? ⟨gb285, 1, none⟩ = some (.string a0_1) ∧ w'.cell? ⟨gb285, 2, none⟩ = some (.string a0_2) ∧ w'.cell? ⟨gb285, 3, none⟩ = some (.slice A0_3 l0_3.length c0_3) ∧ w'.cell? ⟨gb285, 4, none⟩ = some (.slice A0_4 l0_4.length c0_4) ∧ w'.cell? ad292 = some (.string ((rd_T25 t286 0).f0)) ∧ w'.cell? ⟨ad292.block, ad292.off + 1, none⟩ = some (.string ((rd_T25 t286 0).f1)) ∧ w'.cell? ⟨ad292.block, ad292.off + 2, none⟩ = some (.string ((rd_T25 t286 0).f2)) ∧ w'.cell? ⟨ad292.block, ad292.off + 3, none⟩ = some (.slice A292_3 ((rd_T25 t286 0).f3).length c292_3) ∧ w'.cell? ⟨ad292.block, ad292.off + 4, none⟩ = some (.slice A292_4 ((rd_T25 t286 0).f4).length c292_4) ∧ w'.cell? (ad292.add (((ji14)).toNat * 5)) = some (.string ((rd_T25 t286 (ji14)).f0)) ∧ w'.cell? ⟨(ad292.add (((ji14)).toNat * 5)).block, (ad292.add (((ji14)).toNat * 5)).off + 1, none⟩ = some (.string ((rd_T25 t286 (ji14)).f1)) ∧ w'.cell? ⟨(ad292.add (((ji14)).toNat * 5)).block, (ad292.add (((ji14)).toNat * 5)).off + 2, none⟩ = some (.string ((rd_T25 t286 (ji14)).f2)) ∧ w'.cell? ⟨(ad292.add (((ji14)).toNat * 5)).block, (ad292.add (((ji14)).toNat * 5)).off + 3, none⟩ = some (.slice A294_3 ((rd_T25 t286 (ji14)).f3).length c294_3) ∧ w'.cell? ⟨(ad292.add (((ji14)).toNat * 5)).block, (ad292.add (((ji14)).toNat * 5)).off + 4, none⟩ = some (.slice A294_4 ((rd_T25 t286 (ji14)).f4).length c294_4)) (ds := []) (bmp 21 0) (by kernel_rfl) rfl rfl ⟨(blk_cell BK285.out 0).trans rfl, (blk_cell BK285.out 1).trans rfl, (blk_cell BK285.out 2).trans rfl, (blk_cell BK285.out 3).trans rfl, (blk_cell BK285.out 4).trans rfl, hx292_0, hx292_1, hx292_2, hx292_3, hx292_4, hx294_0, hx294_1, hx294_2, hx294_3, hx294_4⟩ (fun hHeld => ?_); refine with_tabW idiomlaw07_TagUp.tab4 idiomlaw07_TagUp.bits4 (fun HT_ HW_ => ?_)
        generalize w7.drew = w18 at HO288 BK285 HB HL292_3 HL292_4 HL294_3 HL294_4 HR292_3 HR292_4 HR294_3 HR294_4 hx292_0 hx292_1 hx292_2 hx292_3 hx292_4 hx294_0 hx294_1 hx294_2 hx294_3 hx294_4 hHeld ⊢
        iterate 8 (first | refine pu_ HT_ ?_ | refine tk_ HT_ HW_ hHeld ?_)
        refine one_ (i := 8) (N := some 30) (bmp 21 9) rfl rfl (one_of HT_.out (by kernel_rfl)) (by decide) (fun K hK => ?_)
        refine goes_ Tryz.func13 (by kernel_rfl) rfl #[.agg #[.string ((rd_T25 t286 0).f0), .string ((rd_T25 t286 0).f1), .string ((rd_T25 t286 0).f2), .slice A292_3 ((rd_T25 t286 0).f3).length c292_3, .slice A292_4 ((rd_T25 t286 0).f4).length c292_4], .agg #[.string a0_0, .string a0_1, .string a0_2, .slice A0_3 l0_3.length c0_3, .slice A0_4 l0_4.length c0_4]] (by rfl) rfl rfl (by (try simp only [List.map_toArray, List.map_cons, List.map_nil]); first | done | rfl | (simp only [List.length_drop, List.length_take]; rfl)) ?_
        with_reducible refine (idiomref07_Same.calls k ((rd_T25 t286 0).f0) ((rd_T25 t286 0).f1) ((rd_T25 t286 0).f2) _ _ ((rd_T25 t286 0).f3) _ _ ((rd_T25 t286 0).f4) a0_0 a0_1 a0_2 _ _ l0_3 _ _ l0_4 true _ ?side1 ?side2 ?side3 ?side4 ?side5 ?side6 ?side7 ?side8 A12.out).mono ?_
        (case side1 => repeat (first | exact (by repeat (first | (with_reducible exact HR292_3.out) | (with_reducible refine Kd.C_alloc ?_ _) | (with_reducible refine Kd.C_drewN ?_ _) | (with_reducible refine Kd.C_drew ?_) | exact HR292_3.out)) | (with_reducible refine Kd.C_alloc ?_ _) | (with_reducible refine Kd.C_drewN ?_ _) | (with_reducible refine Kd.C_drew ?_)))
        (case side2 => exact HC292_3.out)
        (case side3 => repeat (first | exact (by repeat (first | (with_reducible exact HR292_4.out) | (with_reducible refine Kd.C_alloc ?_ _) | (with_reducible refine Kd.C_drewN ?_ _) | (with_reducible refine Kd.C_drew ?_) | exact HR292_4.out)) | (with_reducible refine Kd.C_alloc ?_ _) | (with_reducible refine Kd.C_drewN ?_ _) | (with_reducible refine Kd.C_drew ?_)))
        (case side4 => exact HC292_4.out)
        (case side5 => repeat (first | exact (Kd.C_below HR0_3.out HB.out) | (with_reducible refine Kd.C_alloc ?_ _) | (with_reducible refine Kd.C_drewN ?_ _) | (with_reducible refine Kd.C_drew ?_)))
        (case side6 => exact HC0_3.out)
        (case side7 => repeat (first | exact (Kd.C_below HR0_4.out HB.out) | (with_reducible refine Kd.C_alloc ?_ _) | (with_reducible refine Kd.C_drewN ?_ _) | (with_reducible refine Kd.C_drew ?_)))
        (case side8 => exact HC0_4.out)
        rintro e w20 ⟨rfl, hb⟩
        have HS5_ := (hb.cell (World.block_lt_of_cell? _ _ (hHeld.2.2.2.2.2.1))).trans (hHeld.2.2.2.2.2.1)
        have HS6_ := (hb.cell (World.block_lt_of_cell? _ _ (hHeld.2.2.2.2.2.2.1))).trans (hHeld.2.2.2.2.2.2.1)
        have HS7_ := (hb.cell (World.block_lt_of_cell? _ _ (hHeld.2.2.2.2.2.2.2.1))).trans (hHeld.2.2.2.2.2.2.2.1)
        have HS8_ := (hb.cell (World.block_lt_of_cell? _ _ (hHeld.2.2.2.2.2.2.2.2.1))).trans (hHeld.2.2.2.2.2.2.2.2.1)
        have HS9_ := (hb.cell (World.block_lt_of_cell? _ _ (hHeld.2.2.2.2.2.2.2.2.2.1))).trans (hHeld.2.2.2.2.2.2.2.2.2.1)
        have HS10_ := (hb.cell (World.block_lt_of_cell? _ _ (hHeld.2.2.2.2.2.2.2.2.2.2.1))).trans (hHeld.2.2.2.2.2.2.2.2.2.2.1)
        have HS11_ := (hb.cell (World.block_lt_of_cell? _ _ (hHeld.2.2.2.2.2.2.2.2.2.2.2.1))).trans (hHeld.2.2.2.2.2.2.2.2.2.2.2.1)
        have HS12_ := (hb.cell (World.block_lt_of_cell? _ _ (hHeld.2.2.2.2.2.2.2.2.2.2.2.2.1))).trans (hHeld.2.2.2.2.2.2.2.2.2.2.2.2.1)
        have HS13_ := (hb.cell (World.block_lt_of_cell? _ _ (hHeld.2.2.2.2.2.2.2.2.2.2.2.2.2.1))).trans (hHeld.2.2.2.2.2.2.2.2.2.2.2.2.2.1)
        have HS14_ := (hb.cell (World.block_lt_of_cell? _ _ (hHeld.2.2.2.2.2.2.2.2.2.2.2.2.2.2))).trans (hHeld.2.2.2.2.2.2.2.2.2.2.2.2.2.2)
        refine ⟨_, rfl, ?_⟩
        replace HO288 := Aside0.mk (Kd.S_below (by (with_reducible repeat (first | apply Kd.S_alloc | apply Kd.S_drewN | apply Kd.S_drew)); exact HO288.out) hb)
        replace HL292_3 := Aside0.mk (Kd.R_below (ra_ HL292_3) hb)
        replace HL294_3 := Aside0.mk (Kd.R_below (ra_ HL294_3) hb)
        replace HL292_4 := Aside0.mk (Kd.R_below (ra_ HL292_4) hb)
        replace HL294_4 := Aside0.mk (Kd.R_below (ra_ HL294_4) hb)
        replace BK285 := Aside0.mk (blk_below (g := gb285) (o := .cells #[.string a0_0, .string a0_1, .string a0_2, .slice A0_3 l0_3.length c0_3, .slice A0_4 l0_4.length c0_4] 25 (0, 0)) (bk_ BK285) hb)
        replace HR292_3 := Aside0.mk (Kd.C_below (by repeat (first | (with_reducible exact HR292_3.out) | (with_reducible refine Kd.C_alloc ?_ _) | (with_reducible refine Kd.C_drewN ?_ _) | (with_reducible refine Kd.C_drew ?_) | exact HR292_3.out)) hb)
        replace HR294_3 := Aside0.mk (Kd.C_below (by repeat (first | (with_reducible exact HR294_3.out) | (with_reducible refine Kd.C_alloc ?_ _) | (with_reducible refine Kd.C_drewN ?_ _) | (with_reducible refine Kd.C_drew ?_) | exact HR294_3.out)) hb)
        replace HR292_4 := Aside0.mk (Kd.C_below (by repeat (first | (with_reducible exact HR292_4.out) | (with_reducible refine Kd.C_alloc ?_ _) | (with_reducible refine Kd.C_drewN ?_ _) | (with_reducible refine Kd.C_drew ?_) | exact HR292_4.out)) hb)
        replace HR294_4 := Aside0.mk (Kd.C_below (by repeat (first | (with_reducible exact HR294_4.out) | (with_reducible refine Kd.C_alloc ?_ _) | (with_reducible refine Kd.C_drewN ?_ _) | (with_reducible refine Kd.C_drew ?_) | exact HR294_4.out)) hb)
        replace HB := Aside0.mk (below_step (by repeat (first | (with_reducible first | exact HB.out | apply below_alloc | apply pw_below_drewN | apply below_drew1 | refine below_set ?_ GE285.out) | exact HB.out)) hb)
        (try clear hb)
        (try clear hb2)
        (try clear hk)
        (try clear hi)
        refine hK.out _ _ ⟨(blk_cell BK285.out 0).trans rfl, (blk_cell BK285.out 1).trans rfl, (blk_cell BK285.out 2).trans rfl, (blk_cell BK285.out 3).trans rfl, (blk_cell BK285.out 4).trans rfl, HS5_, HS6_, HS7_, HS8_, HS9_, HS10_, HS11_, HS12_, HS13_, HS14_⟩ (fun hHeld => ?_)
        clear hK K
        refine norm_ (a' := ?_) ?_ ?_
        rotate_left
        ·show Act.put _ (some 30) _ = _
         simp only [Act.put, List.setIfInBounds_toArray, List.set_cons_zero, List.set_cons_succ, i64_w, i32_w]
         rfl
        iterate 9 (first | refine pu_ HT_ ?_ | refine tk_ HT_ HW_ hHeld ?_)
        refine one_ (i := 18) (N := some 40) (bmp 21 19) rfl rfl (one_of HT_.out (by kernel_rfl)) (by decide) (fun K hK => ?_)
        refine goes_ Tryz.func14 (by kernel_rfl) rfl #[.agg #[.string ((rd_T25 t286 (ji14)).f0), .string ((rd_T25 t286 (ji14)).f1), .string ((rd_T25 t286 (ji14)).f2), .slice A294_3 ((rd_T25 t286 (ji14)).f3).length c294_3, .slice A294_4 ((rd_T25 t286 (ji14)).f4).length c294_4]] (by rfl) rfl rfl (by (try simp only [List.map_toArray, List.map_cons, List.map_nil]); first | done | (simp only [hji14]; rfl) | rfl | (simp only [List.length_drop, List.length_take]; rfl)) ?_
        with_reducible refine (idiomref07_Root.calls k ((rd_T25 t286 (ji14)).f0) ((rd_T25 t286 (ji14)).f1) ((rd_T25 t286 (ji14)).f2) _ _ ((rd_T25 t286 (ji14)).f3) _ _ ((rd_T25 t286 (ji14)).f4) t295 _ ?side1 ?side2 ?side3 ?side4 A17.out).mono ?_
        (case side1 => repeat (first | exact (by repeat (first | (with_reducible exact HR294_3.out) | (with_reducible refine Kd.C_alloc ?_ _) | (with_reducible refine Kd.C_drewN ?_ _) | (with_reducible refine Kd.C_drew ?_) | exact HR294_3.out)) | (with_reducible refine Kd.C_alloc ?_ _) | (with_reducible refine Kd.C_drewN ?_ _) | (with_reducible refine Kd.C_drew ?_)))
        (case side2 => exact HC294_3.out)
        (case side3 => repeat (first | exact (by repeat (first | (with_reducible exact HR294_4.out) | (with_reducible refine Kd.C_alloc ?_ _) | (with_reducible refine Kd.C_drewN ?_ _) | (with_reducible refine Kd.C_drew ?_) | exact HR294_4.out)) | (with_reducible refine Kd.C_alloc ?_ _) | (with_reducible refine Kd.C_drewN ?_ _) | (with_reducible refine Kd.C_drew ?_)))
        (case side4 => exact HC294_4.out)
        rintro e w21 ⟨rfl, hb⟩
        have HS5_ := (hb.cell (World.block_lt_of_cell? _ _ (hHeld.2.2.2.2.2.1))).trans (hHeld.2.2.2.2.2.1)
        have HS6_ := (hb.cell (World.block_lt_of_cell? _ _ (hHeld.2.2.2.2.2.2.1))).trans (hHeld.2.2.2.2.2.2.1)
        have HS7_ := (hb.cell (World.block_lt_of_cell? _ _ (hHeld.2.2.2.2.2.2.2.1))).trans (hHeld.2.2.2.2.2.2.2.1)
        have HS8_ := (hb.cell (World.block_lt_of_cell? _ _ (hHeld.2.2.2.2.2.2.2.2.1))).trans (hHeld.2.2.2.2.2.2.2.2.1)
        have HS9_ := (hb.cell (World.block_lt_of_cell? _ _ (hHeld.2.2.2.2.2.2.2.2.2.1))).trans (hHeld.2.2.2.2.2.2.2.2.2.1)
        have HS10_ := (hb.cell (World.block_lt_of_cell? _ _ (hHeld.2.2.2.2.2.2.2.2.2.2.1))).trans (hHeld.2.2.2.2.2.2.2.2.2.2.1)
        have HS11_ := (hb.cell (World.block_lt_of_cell? _ _ (hHeld.2.2.2.2.2.2.2.2.2.2.2.1))).trans (hHeld.2.2.2.2.2.2.2.2.2.2.2.1)
        have HS12_ := (hb.cell (World.block_lt_of_cell? _ _ (hHeld.2.2.2.2.2.2.2.2.2.2.2.2.1))).trans (hHeld.2.2.2.2.2.2.2.2.2.2.2.2.1)
        have HS13_ := (hb.cell (World.block_lt_of_cell? _ _ (hHeld.2.2.2.2.2.2.2.2.2.2.2.2.2.1))).trans (hHeld.2.2.2.2.2.2.2.2.2.2.2.2.2.1)
        have HS14_ := (hb.cell (World.block_lt_of_cell? _ _ (hHeld.2.2.2.2.2.2.2.2.2.2.2.2.2.2))).trans (hHeld.2.2.2.2.2.2.2.2.2.2.2.2.2.2)
        refine ⟨_, rfl, ?_⟩
        replace HO288 := Aside0.mk (Kd.S_below (by (with_reducible repeat (first | apply Kd.S_alloc | apply Kd.S_drewN | apply Kd.S_drew)); exact HO288.out) hb)
        replace HL292_3 := Aside0.mk (Kd.R_below (ra_ HL292_3) hb)
        replace HL292_4 := Aside0.mk (Kd.R_below (ra_ HL292_4) hb)
        replace HL294_3 := Aside0.mk (Kd.R_below (ra_ HL294_3) hb)
        replace HL294_4 := Aside0.mk (Kd.R_below (ra_ HL294_4) hb)
        replace BK285 := Aside0.mk (blk_below (g := gb285) (o := .cells #[.string a0_0, .string a0_1, .string a0_2, .slice A0_3 l0_3.length c0_3, .slice A0_4 l0_4.length c0_4] 25 (0, 0)) (bk_ BK285) hb)
        replace HR292_3 := Aside0.mk (Kd.C_below (by repeat (first | (with_reducible exact HR292_3.out) | (with_reducible refine Kd.C_alloc ?_ _) | (with_reducible refine Kd.C_drewN ?_ _) | (with_reducible refine Kd.C_drew ?_) | exact HR292_3.out)) hb)
        replace HR292_4 := Aside0.mk (Kd.C_below (by repeat (first | (with_reducible exact HR292_4.out) | (with_reducible refine Kd.C_alloc ?_ _) | (with_reducible refine Kd.C_drewN ?_ _) | (with_reducible refine Kd.C_drew ?_) | exact HR292_4.out)) hb)
        replace HR294_3 := Aside0.mk (Kd.C_below (by repeat (first | (with_reducible exact HR294_3.out) | (with_reducible refine Kd.C_alloc ?_ _) | (with_reducible refine Kd.C_drewN ?_ _) | (with_reducible refine Kd.C_drew ?_) | exact HR294_3.out)) hb)
        replace HR294_4 := Aside0.mk (Kd.C_below (by repeat (first | (with_reducible exact HR294_4.out) | (with_reducible refine Kd.C_alloc ?_ _) | (with_reducible refine Kd.C_drewN ?_ _) | (with_reducible refine Kd.C_drew ?_) | exact HR294_4.out)) hb)
        replace HB := Aside0.mk (below_step (by repeat (first | (with_reducible first | exact HB.out | apply below_alloc | apply pw_below_drewN | apply below_drew1 | refine below_set ?_ GE285.out) | exact HB.out)) hb)
        (try clear hb)
        (try clear hb2)
        (try clear hk)
        (try clear hi)
        refine hK.out _ _ ⟨(blk_cell BK285.out 0).trans rfl, (blk_cell BK285.out 1).trans rfl, (blk_cell BK285.out 2).trans rfl, (blk_cell BK285.out 3).trans rfl, (blk_cell BK285.out 4).trans rfl, HS5_, HS6_, HS7_, HS8_, HS9_, HS10_, HS11_, HS12_, HS13_, HS14_⟩ (fun hHeld => ?_)
        clear hK K
        refine norm_ (a' := ?_) ?_ ?_
        rotate_left
        ·show Act.put _ (some 40) _ = _
         simp only [Act.put, List.setIfInBounds_toArray, List.set_cons_zero, List.set_cons_succ, i64_w, i32_w]
         rfl
        iterate 2 (refine pu_ HT_ ?_)
        refine dg_ HT_ ?_
        try go_wp2
        go_meet
        case rel => exact ⟨_, (!t295), (by first | rfl | (simp; done) | (simp [*]; done)), H', ⟨by first | omega | exact Nat.le_refl _⟩, ⟨by (with_reducible repeat (first | apply Kd.S_alloc | apply Kd.S_drewN | apply Kd.S_drew)); exact Kd.S_mono HO288.out (fun _ hk => hk.2)⟩, ⟨by (with_reducible repeat (first | refine blk_drewN ?_ _ | refine blk_drew ?_ | refine blk_alloc ?_ _)); exact BK285.out⟩, ⟨by repeat (first | (with_reducible first | exact HB.out | apply below_alloc | apply pw_below_drewN | apply below_drew1 | refine below_set ?_ GE285.out) | exact HB.out)⟩⟩
       ·rw [if_neg c16] at H
        exact absurd H (by simp)
      ·rw [if_neg c15] at H
       exact absurd H (by simp)
     ·replace c13 := Bool.eq_false_iff.mpr c13
      subst c13
      have H1 : (idiomlaw07_TagUp.j0 k t286 true) = some r := by rw [if_neg (show ¬ (false = true) by decide)] at H; exact H
      clear H
      have H := H1
      clear H1
      have H' := Aside0.mk H
      clear H
      try go_wp2
      replace HO288 := Aside0.mk (Kd.S_drew HO288.out)
      replace BK285 := Aside0.mk (blk_drew BK285.out)
      replace HB := Aside0.mk (below_drew1 HB.out)
      obtain ⟨Ao23, co23, eo23⟩ := Kd.S_slice HO288.out
      (first | subst eo23 | (injection eo23 with f1_ f2_ f3_; have f4_ := f1_.symm; have f5_ := f3_.symm; clear f1_ f2_ f3_; subst f4_; subst f5_))
      have p292 : 0 ≤ (0 : Int) := (by omega)
      have q292 : 0 < (t286.length : Int) := of_decide_eq_true (by first | (with_reducible assumption) | assumption)
      obtain ⟨ad292, A292_3, c292_3, A292_4, c292_4, e292, hx292_0, hx292_1, hx292_2, hx292_3, hx292_4, hl292_3, hi292_3, hl292_4, hi292_4⟩ := at_T25 (Kd.S_reads' HO288.out).2.2 0 p292 q292
      cases e292
      obtain ⟨ce292, hce292, hMe292, hcc292⟩ := Kd.S_get HO288.out z25 0 p292 (by first | exact q292 | exact of_decide_eq_true (by first | (with_reducible assumption) | assumption) | (have e_ := (Kd.S_reads' HO288.out).1; omega))
      obtain ⟨ve292_3, ve292_4, rfl, ge292_3, ge292_4⟩ := k25_openM hMe292
      have hv292_3 := hcc292 3 _ rfl
      rw [add_field _ _ 3 (by omega)] at hv292_3
      replace hv292_3 := Option.some.inj (hv292_3.symm.trans hx292_3)
      rw [hv292_3] at ge292_3
      have HL292_3 := Aside0.mk (show Kd.R Kd.string 9 _ _ _ _ ((rd_T25 t286 0).f3) from ge292_3)
      clear hv292_3 ge292_3
      have hv292_4 := hcc292 4 _ rfl
      rw [add_field _ _ 4 (by omega)] at hv292_4
      replace hv292_4 := Option.some.inj (hv292_4.symm.trans hx292_4)
      rw [hv292_4] at ge292_4
      have HL292_4 := Aside0.mk (show Kd.R k39 39 _ _ _ _ ((rd_T25 t286 0).f4) from ge292_4)
      clear hv292_4 ge292_4
      clear hcc292 hce292
      have qi292 : (0 < t286.length) = True := eq_true (by omega)
      (try rw [show ((0 : Int)).toNat = 0 from rfl] at hx292_0)
      (try rw [show 0 * 5 = 0 from rfl] at hx292_0)
      (try rw [Addr.add_zero'] at hx292_0)
      (try rw [show ((0 : Int)).toNat = 0 from rfl] at hx292_1)
      (try rw [show 0 * 5 = 0 from rfl] at hx292_1)
      (try rw [Addr.add_zero'] at hx292_1)
      (try rw [show ((0 : Int)).toNat = 0 from rfl] at hx292_2)
      (try rw [show 0 * 5 = 0 from rfl] at hx292_2)
      (try rw [Addr.add_zero'] at hx292_2)
      (try rw [show ((0 : Int)).toNat = 0 from rfl] at hx292_3)
      (try rw [show 0 * 5 = 0 from rfl] at hx292_3)
      (try rw [Addr.add_zero'] at hx292_3)
      (try rw [show ((0 : Int)).toNat = 0 from rfl] at hx292_4)
      (try rw [show 0 * 5 = 0 from rfl] at hx292_4)
      (try rw [Addr.add_zero'] at hx292_4)
      have HR292_3 := Aside0.mk hi292_3
      have HC292_3 := Aside0.mk hl292_3
      clear hi292_3 hl292_3
      have HR292_4 := Aside0.mk hi292_4
      have HC292_4 := Aside0.mk hl292_4
      clear hi292_4 hl292_4
      replace p292 := eq_true p292
      replace q292 := eq_true q292
      refine start_ (n := 21) (S := fun w' => w'.cell? ⟨gb285, 0, none⟩ = some (.string a0_0) ∧ w'.cell? ⟨gb285, 1, none⟩ = some (.string a0_1) ∧ w'.cell? ⟨gb285, 2, none⟩ = some (.string a0_2) ∧ w'.cell? ⟨gb285, 3, none⟩ = some (.slice A0_3 l0_3.length c0_3) ∧ w'.cell? ⟨gb285, 4, none⟩ = some (.slice A0_4 l0_4.length c0_4) ∧ w'.cell? ad292 = some (.string ((rd_T25 t286 0).f0)) ∧ w'.cell? ⟨ad292.block, ad292.off + 1, none⟩ = some (.string ((rd_T25 t286 0).f1)) ∧ w'.cell? ⟨ad292.block, ad292.off + 2, none⟩ = some (.string ((rd_T25 t286 0).f2)) ∧ w'.cell? ⟨ad292.block, ad292.off + 3, none⟩ = some (.slice A292_3 ((rd_T25 t286 0).f3).length c292_3) ∧ w'.cell? ⟨ad292.block, ad292.off + 4, none⟩ = some (.slice A292_4 ((rd_T25 t286 0).f4).length c292_4)) (ds := []) (bmp 21 0) (by kernel_rfl) rfl rfl ⟨(blk_cell BK285.out 0).trans rfl, (blk_cell BK285.out 1).trans rfl, (blk_cell BK285.out 2).trans rfl, (blk_cell BK285.out 3).trans rfl, (blk_cell BK285.out 4).trans rfl, hx292_0, hx292_1, hx292_2, hx292_3, hx292_4⟩ (fun hHeld => ?_); refine with_tabW idiomlaw07_TagUp.tab4 idiomlaw07_TagUp.bits4 (fun HT_ HW_ => ?_)
      generalize w7.drew = w22 at HO288 BK285 HB HL292_3 HL292_4 HR292_3 HR292_4 hx292_0 hx292_1 hx292_2 hx292_3 hx292_4 hHeld ⊢
      iterate 8 (first | refine pu_ HT_ ?_ | refine tk_ HT_ HW_ hHeld ?_)
      refine one_ (i := 8) (N := some 30) (bmp 21 9) rfl rfl (one_of HT_.out (by kernel_rfl)) (by decide) (fun K hK => ?_)
      refine goes_ Tryz.func13 (by kernel_rfl) rfl #[.agg #[.string ((rd_T25 t286 0).f0), .string ((rd_T25 t286 0).f1), .string ((rd_T25 t286 0).f2), .slice A292_3 ((rd_T25 t286 0).f3).length c292_3, .slice A292_4 ((rd_T25 t286 0).f4).length c292_4], .agg #[.string a0_0, .string a0_1, .string a0_2, .slice A0_3 l0_3.length c0_3, .slice A0_4 l0_4.length c0_4]] (by rfl) rfl rfl (by (try simp only [List.map_toArray, List.map_cons, List.map_nil]); first | done | rfl | (simp only [List.length_drop, List.length_take]; rfl)) ?_
      with_reducible refine (idiomref07_Same.calls k ((rd_T25 t286 0).f0) ((rd_T25 t286 0).f1) ((rd_T25 t286 0).f2) _ _ ((rd_T25 t286 0).f3) _ _ ((rd_T25 t286 0).f4) a0_0 a0_1 a0_2 _ _ l0_3 _ _ l0_4 false _ ?side1 ?side2 ?side3 ?side4 ?side5 ?side6 ?side7 ?side8 A12.out).mono ?_
      (case side1 => repeat (first | exact (by repeat (first | (with_reducible exact HR292_3.out) | (with_reducible refine Kd.C_alloc ?_ _) | (with_reducible refine Kd.C_drewN ?_ _) | (with_reducible refine Kd.C_drew ?_) | exact HR292_3.out)) | (with_reducible refine Kd.C_alloc ?_ _) | (with_reducible refine Kd.C_drewN ?_ _) | (with_reducible refine Kd.C_drew ?_)))
      (case side2 => exact HC292_3.out)
      (case side3 => repeat (first | exact (by repeat (first | (with_reducible exact HR292_4.out) | (with_reducible refine Kd.C_alloc ?_ _) | (with_reducible refine Kd.C_drewN ?_ _) | (with_reducible refine Kd.C_drew ?_) | exact HR292_4.out)) | (with_reducible refine Kd.C_alloc ?_ _) | (with_reducible refine Kd.C_drewN ?_ _) | (with_reducible refine Kd.C_drew ?_)))
      (case side4 => exact HC292_4.out)
      (case side5 => repeat (first | exact (Kd.C_below HR0_3.out HB.out) | (with_reducible refine Kd.C_alloc ?_ _) | (with_reducible refine Kd.C_drewN ?_ _) | (with_reducible refine Kd.C_drew ?_)))
      (case side6 => exact HC0_3.out)
      (case side7 => repeat (first | exact (Kd.C_below HR0_4.out HB.out) | (with_reducible refine Kd.C_alloc ?_ _) | (with_reducible refine Kd.C_drewN ?_ _) | (with_reducible refine Kd.C_drew ?_)))
      (case side8 => exact HC0_4.out)
      rintro e w24 ⟨rfl, hb⟩
      have HS5_ := (hb.cell (World.block_lt_of_cell? _ _ (hHeld.2.2.2.2.2.1))).trans (hHeld.2.2.2.2.2.1)
      have HS6_ := (hb.cell (World.block_lt_of_cell? _ _ (hHeld.2.2.2.2.2.2.1))).trans (hHeld.2.2.2.2.2.2.1)
      have HS7_ := (hb.cell (World.block_lt_of_cell? _ _ (hHeld.2.2.2.2.2.2.2.1))).trans (hHeld.2.2.2.2.2.2.2.1)
      have HS8_ := (hb.cell (World.block_lt_of_cell? _ _ (hHeld.2.2.2.2.2.2.2.2.1))).trans (hHeld.2.2.2.2.2.2.2.2.1)
      have HS9_ := (hb.cell (World.block_lt_of_cell? _ _ (hHeld.2.2.2.2.2.2.2.2.2))).trans (hHeld.2.2.2.2.2.2.2.2.2)
      refine ⟨_, rfl, ?_⟩
      replace HO288 := Aside0.mk (Kd.S_below (by (with_reducible repeat (first | apply Kd.S_alloc | apply Kd.S_drewN | apply Kd.S_drew)); exact HO288.out) hb)
      replace HL292_3 := Aside0.mk (Kd.R_below (ra_ HL292_3) hb)
      replace HL292_4 := Aside0.mk (Kd.R_below (ra_ HL292_4) hb)
      replace BK285 := Aside0.mk (blk_below (g := gb285) (o := .cells #[.string a0_0, .string a0_1, .string a0_2, .slice A0_3 l0_3.length c0_3, .slice A0_4 l0_4.length c0_4] 25 (0, 0)) (bk_ BK285) hb)
      replace HR292_3 := Aside0.mk (Kd.C_below (by repeat (first | (with_reducible exact HR292_3.out) | (with_reducible refine Kd.C_alloc ?_ _) | (with_reducible refine Kd.C_drewN ?_ _) | (with_reducible refine Kd.C_drew ?_) | exact HR292_3.out)) hb)
      replace HR292_4 := Aside0.mk (Kd.C_below (by repeat (first | (with_reducible exact HR292_4.out) | (with_reducible refine Kd.C_alloc ?_ _) | (with_reducible refine Kd.C_drewN ?_ _) | (with_reducible refine Kd.C_drew ?_) | exact HR292_4.out)) hb)
      replace HB := Aside0.mk (below_step (by repeat (first | (with_reducible first | exact HB.out | apply below_alloc | apply pw_below_drewN | apply below_drew1 | refine below_set ?_ GE285.out) | exact HB.out)) hb)
      (try clear hb)
      (try clear hb2)
      (try clear hk)
      (try clear hi)
      refine hK.out _ _ ⟨(blk_cell BK285.out 0).trans rfl, (blk_cell BK285.out 1).trans rfl, (blk_cell BK285.out 2).trans rfl, (blk_cell BK285.out 3).trans rfl, (blk_cell BK285.out 4).trans rfl, HS5_, HS6_, HS7_, HS8_, HS9_⟩ (fun hHeld => ?_)
      clear hK K
      refine norm_ (a' := ?_) ?_ ?_
      rotate_left
      ·show Act.put _ (some 30) _ = _
       simp only [Act.put, List.setIfInBounds_toArray, List.set_cons_zero, List.set_cons_succ, i64_w, i32_w]
       rfl
      iterate 12 (first | refine sk_ HT_ ?_ | refine pu_ HT_ ?_)
      refine dg_ HT_ ?_
      try go_wp2
      go_meet
      case rel => exact ⟨_, (true), (by first | rfl | (simp; done) | (simp [*]; done)), H', ⟨by first | omega | exact Nat.le_refl _⟩, ⟨by (with_reducible repeat (first | apply Kd.S_alloc | apply Kd.S_drewN | apply Kd.S_drew)); exact Kd.S_mono HO288.out (fun _ hk => hk.2)⟩, ⟨by (with_reducible repeat (first | refine blk_drewN ?_ _ | refine blk_drew ?_ | refine blk_alloc ?_ _)); exact BK285.out⟩, ⟨by repeat (first | (with_reducible first | exact HB.out | apply below_alloc | apply pw_below_drewN | apply below_drew1 | refine below_set ?_ GE285.out) | exact HB.out)⟩⟩
    ·rw [if_neg c11] at H
     exact absurd H (by simp)
  case rest =>
   clear HC4
   try clear c1
   try clear c2
   try clear p2
   try clear q2
   try clear hx2
   try clear qi2
   try clear c11
   try clear c13
   try clear c14
   try clear c15
   try clear c16
   try clear hx292_0
   try clear hx292_1
   try clear hx292_2
   try clear hx292_3
   try clear hx292_4
   try clear hx294_0
   try clear hx294_1
   try clear hx294_2
   try clear hx294_3
   try clear hx294_4
   try clear p292
   try clear p294
   try clear q292
   try clear q294
   obtain ⟨kq, x42_3, rfl, HA, HJ3, HO_3, BK285, HB⟩ := hcut
   cases kq with
   | zero => exact absurd HA.out (by simp [idiomlaw07_TagUp.j0])
   | succ kj3 =>
    have H := HA.out
    clear HA
    simp only [idiomlaw07_TagUp.j0] at H
    by_cases c25 : x42_3 = true
    ·subst c25
     have H1 : (some false) = some r := by rw [if_pos rfl] at H; exact H
     clear H
     have H := H1
     clear H1
     obtain rfl := Option.some.inj H
     go_wp2
     go_ret
     exact ⟨by first | rfl | (simp [errW_none, errW_some] <;> rfl) | (simp [*, errW_none, errW_some] <;> rfl), by repeat (first | (with_reducible first | exact HB.out | apply below_alloc | apply pw_below_drewN | apply below_drew1 | refine below_set ?_ GE285.out) | exact HB.out)⟩
    ·replace c25 := Bool.eq_false_iff.mpr c25
     subst c25
     have H1 : (idiomlaw07_TagUp.l0 kj3 t286 1) = some r := by rw [if_neg (show ¬ (false = true) by decide)] at H; exact H
     clear H
     have H := H1
     clear H1
     have H' := Aside0.mk H
     clear H
     go_wp2
     go_loopg [5] kj3 (fun kq v5 w' => ∃ (x5_2 : Int), v5 = .int .i64 x5_2 ∧ Aside0 (idiomlaw07_TagUp.l0 kq t286 x5_2 = some r) ∧ Aside0 (kq ≤ kj3) ∧ Aside0 (Kd.S k25 25 w' w.heap.size (fun k_ => k_ ≠ gb285) v287 t286) ∧ Aside0 (w'.heap[gb285]? = some (.cells #[.string a0_0, .string a0_1, .string a0_2, (.slice A0_3 l0_3.length c0_3), (.slice A0_4 l0_4.length c0_4)] 25 (0, 0))) ∧ Aside0 (Below w.heap.size w w'))
     case atStart => exact ⟨(1), (by first | rfl | (simp; done) | (simp [*]; done)), H', ⟨Nat.le_refl _⟩, ⟨by (with_reducible repeat (first | apply Kd.S_alloc | apply Kd.S_drewN | apply Kd.S_drew)); exact HO_3.out⟩, ⟨by (with_reducible repeat (first | refine blk_drewN ?_ _ | refine blk_drew ?_ | refine blk_alloc ?_ _)); exact BK285.out⟩, ⟨by repeat (first | (with_reducible first | exact HB.out | apply below_alloc | apply pw_below_drewN | apply below_drew1 | refine below_set ?_ GE285.out) | exact HB.out)⟩⟩
     case round =>
      clear H'
      try clear c1
      try clear c2
      try clear p2
      try clear q2
      try clear hx2
      try clear qi2
      try clear c11
      try clear c13
      try clear c14
      try clear c15
      try clear c16
      try clear c25
      try clear hx292_0
      try clear hx292_1
      try clear hx292_2
      try clear hx292_3
      try clear hx292_4
      try clear hx294_0
      try clear hx294_1
      try clear hx294_2
      try clear hx294_3
      try clear hx294_4
      try clear p2
      try clear p292
      try clear p294
      try clear q2
      try clear q292
      try clear q294
      obtain ⟨x5_2, rfl, HA, HK2, HO_3, BK285, HB⟩ := hrel
      cases gk with
      | zero => exact absurd HA.out (by simp [idiomlaw07_TagUp.l0])
      | succ k2 =>
       have H := HA.out
       clear HA
       simp only [idiomlaw07_TagUp.l0] at H
       by_cases c26 : x5_2 < (t286.length : Int)
       ·rw [if_pos c26] at H
        have c26b0 : decide (x5_2 < (t286.length : Int)) = true := decide_eq_true c26
        clear c26
        obtain ⟨ji27, hji27⟩ : ∃ j_ : Int, (wrap64 (x5_2 - 1)) = j_ := ⟨_, rfl⟩
        replace H : (if 0 ≤ (ji27) then (if (ji27) < (t286.length : Int) then (if 0 ≤ x5_2 then ((tag_Within.f k2 ((rd_T25 t286 (ji27)).f0) ((rd_T25 t286 (ji27)).f1) ((rd_T25 t286 (ji27)).f2) ((rd_T25 t286 (ji27)).f3) ((rd_T25 t286 (ji27)).f4) ((rd_T25 t286 x5_2).f0) ((rd_T25 t286 x5_2).f1) ((rd_T25 t286 x5_2).f2) ((rd_T25 t286 x5_2).f3) ((rd_T25 t286 x5_2).f4)).bind fun bt298 => (if bt298.2 = 0 then (if bt298.1 = true then ((idiomref07_Same.f k2 ((rd_T25 t286 (ji27)).f0) ((rd_T25 t286 (ji27)).f1) ((rd_T25 t286 (ji27)).f2) ((rd_T25 t286 (ji27)).f3) ((rd_T25 t286 (ji27)).f4) ((rd_T25 t286 x5_2).f0) ((rd_T25 t286 x5_2).f1) ((rd_T25 t286 x5_2).f2) ((rd_T25 t286 x5_2).f3) ((rd_T25 t286 x5_2).f4)).bind fun t302 => (idiomlaw07_TagUp.j2 k2 t286 x5_2 t302)) else (idiomlaw07_TagUp.j2 k2 t286 x5_2 true)) else (idiomlaw07_TagUp.j2 k2 t286 x5_2 true))) else (none)) else (none)) else (none)) = some r := by first | (rw [hji27] at H; exact H) | (simp only [hji27] at H ⊢; exact H)
        have hji27w : (IntKind.i64.wrap (x5_2 - 1)) = ji27 := (i64_w _).trans hji27
        by_cases c28 : 0 ≤ (ji27)
        ·rw [if_pos c28] at H
         have c28b0 : decide (0 ≤ (ji27)) = true := decide_eq_true c28
         clear c28
         by_cases c29 : (ji27) < (t286.length : Int)
         ·rw [if_pos c29] at H
          have c29b0 : decide ((ji27) < (t286.length : Int)) = true := decide_eq_true c29
          clear c29
          by_cases c30 : 0 ≤ x5_2
          ·rw [if_pos c30] at H
           have c30b0 : decide (0 ≤ x5_2) = true := decide_eq_true c30
           clear c30
           replace H := Option.bind_eq_some_iff.mp H
           obtain ⟨⟨t298, t299⟩, A310, H⟩ := H
           try dsimp only at H
           have A31 := Aside0.mk A310
           clear A310
           have HC32 := Aside0.mk H
           clear H
           obtain ⟨Ao33, co33, eo33⟩ := Kd.S_slice HO_3.out
           subst eo33
           try go_wp2
           replace HO_3 := Aside0.mk (Kd.S_drew HO_3.out)
           replace BK285 := Aside0.mk (blk_drew BK285.out)
           replace HB := Aside0.mk (below_drew1 HB.out)
           have p296 : 0 ≤ ((ji27) : Int) := of_decide_eq_true (by first | (with_reducible assumption) | assumption)
           have q296 : (ji27) < (t286.length : Int) := of_decide_eq_true (by first | (with_reducible assumption) | assumption)
           obtain ⟨ad296, A296_3, c296_3, A296_4, c296_4, e296, hx296_0, hx296_1, hx296_2, hx296_3, hx296_4, hl296_3, hi296_3, hl296_4, hi296_4⟩ := at_T25 (Kd.S_reads' HO_3.out).2.2 (ji27) p296 q296
           cases e296
           obtain ⟨ce296, hce296, hMe296, hcc296⟩ := Kd.S_get HO_3.out z25 (ji27) p296 (by first | exact q296 | exact of_decide_eq_true (by first | (with_reducible assumption) | assumption) | (have e_ := (Kd.S_reads' HO_3.out).1; omega))
           obtain ⟨ve296_3, ve296_4, rfl, ge296_3, ge296_4⟩ := k25_openM hMe296
           have hv296_3 := hcc296 3 _ rfl
           rw [add_field _ _ 3 (by omega)] at hv296_3
           replace hv296_3 := Option.some.inj (hv296_3.symm.trans hx296_3)
           rw [hv296_3] at ge296_3
           have HL296_3 := Aside0.mk (show Kd.R Kd.string 9 _ _ _ _ ((rd_T25 t286 (ji27)).f3) from ge296_3)
           clear hv296_3 ge296_3
           have hv296_4 := hcc296 4 _ rfl
           rw [add_field _ _ 4 (by omega)] at hv296_4
           replace hv296_4 := Option.some.inj (hv296_4.symm.trans hx296_4)
           rw [hv296_4] at ge296_4
           have HL296_4 := Aside0.mk (show Kd.R k39 39 _ _ _ _ ((rd_T25 t286 (ji27)).f4) from ge296_4)
           clear hv296_4 ge296_4
           clear hcc296 hce296
           have HR296_3 := Aside0.mk hi296_3
           have HC296_3 := Aside0.mk hl296_3
           clear hi296_3 hl296_3
           have HR296_4 := Aside0.mk hi296_4
           have HC296_4 := Aside0.mk hl296_4
           clear hi296_4 hl296_4
           replace p296 := eq_true p296
           replace q296 := eq_true q296
           have p297 : 0 ≤ (x5_2 : Int) := of_decide_eq_true (by first | (with_reducible assumption) | assumption)
           have q297 : x5_2 < (t286.length : Int) := of_decide_eq_true (by first | (with_reducible assumption) | assumption)
           obtain ⟨ad297, A297_3, c297_3, A297_4, c297_4, e297, hx297_0, hx297_1, hx297_2, hx297_3, hx297_4, hl297_3, hi297_3, hl297_4, hi297_4⟩ := at_T25 (Kd.S_reads' HO_3.out).2.2 x5_2 p297 q297
           obtain rfl : ad296 = ad297 := (by injection e297)
           obtain ⟨ce297, hce297, hMe297, hcc297⟩ := Kd.S_get HO_3.out z25 x5_2 p297 (by first | exact q297 | exact of_decide_eq_true (by first | (with_reducible assumption) | assumption) | (have e_ := (Kd.S_reads' HO_3.out).1; omega))
           obtain ⟨ve297_3, ve297_4, rfl, ge297_3, ge297_4⟩ := k25_openM hMe297
           have hv297_3 := hcc297 3 _ rfl
           rw [add_field _ _ 3 (by omega)] at hv297_3
           replace hv297_3 := Option.some.inj (hv297_3.symm.trans hx297_3)
           rw [hv297_3] at ge297_3
           have HL297_3 := Aside0.mk (show Kd.R Kd.string 9 _ _ _ _ ((rd_T25 t286 x5_2).f3) from ge297_3)
           clear hv297_3 ge297_3
           have hv297_4 := hcc297 4 _ rfl
           rw [add_field _ _ 4 (by omega)] at hv297_4
           replace hv297_4 := Option.some.inj (hv297_4.symm.trans hx297_4)
           rw [hv297_4] at ge297_4
           have HL297_4 := Aside0.mk (show Kd.R k39 39 _ _ _ _ ((rd_T25 t286 x5_2).f4) from ge297_4)
           clear hv297_4 ge297_4
           clear hcc297 hce297
           have HR297_3 := Aside0.mk hi297_3
           have HC297_3 := Aside0.mk hl297_3
           clear hi297_3 hl297_3
           have HR297_4 := Aside0.mk hi297_4
           have HC297_4 := Aside0.mk hl297_4
           clear hi297_4 hl297_4
           replace p297 := eq_true p297
           replace q297 := eq_true q297
           refine start_ (n := 15) (S := fun w' => w'.cell? (ad296.add (((ji27)).toNat * 5)) = some (.string ((rd_T25 t286 (ji27)).f0)) ∧ w'.cell? ⟨(ad296.add (((ji27)).toNat * 5)).block, (ad296.add (((ji27)).toNat * 5)).off + 1, none⟩ = some (.string ((rd_T25 t286 (ji27)).f1)) ∧ w'.cell? ⟨(ad296.add (((ji27)).toNat * 5)).block, (ad296.add (((ji27)).toNat * 5)).off + 2, none⟩ = some (.string ((rd_T25 t286 (ji27)).f2)) ∧ w'.cell? ⟨(ad296.add (((ji27)).toNat * 5)).block, (ad296.add (((ji27)).toNat * 5)).off + 3, none⟩ = some (.slice A296_3 ((rd_T25 t286 (ji27)).f3).length c296_3) ∧ w'.cell? ⟨(ad296.add (((ji27)).toNat * 5)).block, (ad296.add (((ji27)).toNat * 5)).off + 4, none⟩ = some (.slice A296_4 ((rd_T25 t286 (ji27)).f4).length c296_4) ∧ w'.cell? (ad296.add ((x5_2).toNat * 5)) = some (.string ((rd_T25 t286 x5_2).f0)) ∧ w'.cell? ⟨(ad296.add ((x5_2).toNat * 5)).block, (ad296.add ((x5_2).toNat * 5)).off + 1, none⟩ = some (.string ((rd_T25 t286 x5_2).f1)) ∧ w'.cell? ⟨(ad296.add ((x5_2).toNat * 5)).block, (ad296.add ((x5_2).toNat * 5)).off + 2, none⟩ = some (.string ((rd_T25 t286 x5_2).f2)) ∧ w'.cell? ⟨(ad296.add ((x5_2).toNat * 5)).block, (ad296.add ((x5_2).toNat * 5)).off + 3, none⟩ = some (.slice A297_3 ((rd_T25 t286 x5_2).f3).length c297_3) ∧ w'.cell? ⟨(ad296.add ((x5_2).toNat * 5)).block, (ad296.add ((x5_2).toNat * 5)).off + 4, none⟩ = some (.slice A297_4 ((rd_T25 t286 x5_2).f4).length c297_4)) (ds := []) (bmp 15 0) (by kernel_rfl) rfl rfl ⟨hx296_0, hx296_1, hx296_2, hx296_3, hx296_4, hx297_0, hx297_1, hx297_2, hx297_3, hx297_4⟩ (fun hHeld => ?_); refine with_tabW idiomlaw07_TagUp.tab9 idiomlaw07_TagUp.bits9 (fun HT_ HW_ => ?_)
           generalize wr.drew = w34 at HO_3 BK285 HB HL296_3 HL296_4 HL297_3 HL297_4 HR296_3 HR296_4 HR297_3 HR297_4 hx296_0 hx296_1 hx296_2 hx296_3 hx296_4 hx297_0 hx297_1 hx297_2 hx297_3 hx297_4 hHeld ⊢
           iterate 4 (refine pu_ HT_ ?_)
           refine pg_ 5 (bm 15 47) HT_ ?_
           refine pg_ 6 (bm 15 111) HT_ ?_
           refine pg_ 7 (bm 15 239) HT_ ?_
           refine tg_ 4 (bmp 15 8) HT_ HW_ hHeld ?_
           refine tk_ HT_ HW_ hHeld ?_
           refine one_ (i := 9) (N := some 59) (bmp 15 10) rfl rfl (one_of HT_.out (by kernel_rfl)) (by decide) (fun K hK => ?_)
           refine goes_ Tryz.func15 (by kernel_rfl) rfl #[.agg #[.string ((rd_T25 t286 (ji27)).f0), .string ((rd_T25 t286 (ji27)).f1), .string ((rd_T25 t286 (ji27)).f2), .slice A296_3 ((rd_T25 t286 (ji27)).f3).length c296_3, .slice A296_4 ((rd_T25 t286 (ji27)).f4).length c296_4], .agg #[.string ((rd_T25 t286 x5_2).f0), .string ((rd_T25 t286 x5_2).f1), .string ((rd_T25 t286 x5_2).f2), .slice A297_3 ((rd_T25 t286 x5_2).f3).length c297_3, .slice A297_4 ((rd_T25 t286 x5_2).f4).length c297_4]] (by rfl) rfl rfl (by (try simp only [List.map_toArray, List.map_cons, List.map_nil]); first | done | (simp only [hji27]; rfl) | rfl | (simp only [List.length_drop, List.length_take]; rfl)) ?_
           with_reducible refine (tag_Within.calls k2 ((rd_T25 t286 (ji27)).f0) ((rd_T25 t286 (ji27)).f1) ((rd_T25 t286 (ji27)).f2) _ _ ((rd_T25 t286 (ji27)).f3) _ _ ((rd_T25 t286 (ji27)).f4) ((rd_T25 t286 x5_2).f0) ((rd_T25 t286 x5_2).f1) ((rd_T25 t286 x5_2).f2) _ _ ((rd_T25 t286 x5_2).f3) _ _ ((rd_T25 t286 x5_2).f4) t298 t299 _ ?side1 ?side2 ?side3 ?side4 ?side5 ?side6 ?side7 ?side8 (Tbl.below HT.out (by repeat (first | (with_reducible first | exact HB.out | apply below_alloc | apply pw_below_drewN | apply below_drew1 | refine below_set ?_ GE285.out) | exact HB.out))) A31.out).mono ?_
           (case side1 => repeat (first | exact (by repeat (first | (with_reducible exact HR296_3.out) | (with_reducible refine Kd.C_alloc ?_ _) | (with_reducible refine Kd.C_drewN ?_ _) | (with_reducible refine Kd.C_drew ?_) | exact HR296_3.out)) | (with_reducible refine Kd.C_alloc ?_ _) | (with_reducible refine Kd.C_drewN ?_ _) | (with_reducible refine Kd.C_drew ?_)))
           (case side2 => exact HC296_3.out)
           (case side3 => repeat (first | exact (by repeat (first | (with_reducible exact HR296_4.out) | (with_reducible refine Kd.C_alloc ?_ _) | (with_reducible refine Kd.C_drewN ?_ _) | (with_reducible refine Kd.C_drew ?_) | exact HR296_4.out)) | (with_reducible refine Kd.C_alloc ?_ _) | (with_reducible refine Kd.C_drewN ?_ _) | (with_reducible refine Kd.C_drew ?_)))
           (case side4 => exact HC296_4.out)
           (case side5 => repeat (first | exact (by repeat (first | (with_reducible exact HR297_3.out) | (with_reducible refine Kd.C_alloc ?_ _) | (with_reducible refine Kd.C_drewN ?_ _) | (with_reducible refine Kd.C_drew ?_) | exact HR297_3.out)) | (with_reducible refine Kd.C_alloc ?_ _) | (with_reducible refine Kd.C_drewN ?_ _) | (with_reducible refine Kd.C_drew ?_)))
           (case side6 => exact HC297_3.out)
           (case side7 => repeat (first | exact (by repeat (first | (with_reducible exact HR297_4.out) | (with_reducible refine Kd.C_alloc ?_ _) | (with_reducible refine Kd.C_drewN ?_ _) | (with_reducible refine Kd.C_drew ?_) | exact HR297_4.out)) | (with_reducible refine Kd.C_alloc ?_ _) | (with_reducible refine Kd.C_drewN ?_ _) | (with_reducible refine Kd.C_drew ?_)))
           (case side8 => exact HC297_4.out)
           rintro e w35 ⟨rfl, hb⟩
           have HS0_ := (hb.cell (World.block_lt_of_cell? _ _ (hHeld.1))).trans (hHeld.1)
           have HS1_ := (hb.cell (World.block_lt_of_cell? _ _ (hHeld.2.1))).trans (hHeld.2.1)
           have HS2_ := (hb.cell (World.block_lt_of_cell? _ _ (hHeld.2.2.1))).trans (hHeld.2.2.1)
           have HS3_ := (hb.cell (World.block_lt_of_cell? _ _ (hHeld.2.2.2.1))).trans (hHeld.2.2.2.1)
           have HS4_ := (hb.cell (World.block_lt_of_cell? _ _ (hHeld.2.2.2.2.1))).trans (hHeld.2.2.2.2.1)
           have HS5_ := (hb.cell (World.block_lt_of_cell? _ _ (hHeld.2.2.2.2.2.1))).trans (hHeld.2.2.2.2.2.1)
           have HS6_ := (hb.cell (World.block_lt_of_cell? _ _ (hHeld.2.2.2.2.2.2.1))).trans (hHeld.2.2.2.2.2.2.1)
           have HS7_ := (hb.cell (World.block_lt_of_cell? _ _ (hHeld.2.2.2.2.2.2.2.1))).trans (hHeld.2.2.2.2.2.2.2.1)
           have HS8_ := (hb.cell (World.block_lt_of_cell? _ _ (hHeld.2.2.2.2.2.2.2.2.1))).trans (hHeld.2.2.2.2.2.2.2.2.1)
           have HS9_ := (hb.cell (World.block_lt_of_cell? _ _ (hHeld.2.2.2.2.2.2.2.2.2))).trans (hHeld.2.2.2.2.2.2.2.2.2)
           refine ⟨_, rfl, ?_⟩
           replace HO_3 := Aside0.mk (Kd.S_below (by (with_reducible repeat (first | apply Kd.S_alloc | apply Kd.S_drewN | apply Kd.S_drew)); exact HO_3.out) hb)
           replace HL296_3 := Aside0.mk (Kd.R_below (ra_ HL296_3) hb)
           replace HL296_4 := Aside0.mk (Kd.R_below (ra_ HL296_4) hb)
           replace HL297_3 := Aside0.mk (Kd.R_below (ra_ HL297_3) hb)
           replace HL297_4 := Aside0.mk (Kd.R_below (ra_ HL297_4) hb)
           replace BK285 := Aside0.mk (blk_below (g := gb285) (o := .cells #[.string a0_0, .string a0_1, .string a0_2, .slice A0_3 l0_3.length c0_3, .slice A0_4 l0_4.length c0_4] 25 (0, 0)) (bk_ BK285) hb)
           replace HR296_3 := Aside0.mk (Kd.C_below (by repeat (first | (with_reducible exact HR296_3.out) | (with_reducible refine Kd.C_alloc ?_ _) | (with_reducible refine Kd.C_drewN ?_ _) | (with_reducible refine Kd.C_drew ?_) | exact HR296_3.out)) hb)
           replace HR296_4 := Aside0.mk (Kd.C_below (by repeat (first | (with_reducible exact HR296_4.out) | (with_reducible refine Kd.C_alloc ?_ _) | (with_reducible refine Kd.C_drewN ?_ _) | (with_reducible refine Kd.C_drew ?_) | exact HR296_4.out)) hb)
           replace HR297_3 := Aside0.mk (Kd.C_below (by repeat (first | (with_reducible exact HR297_3.out) | (with_reducible refine Kd.C_alloc ?_ _) | (with_reducible refine Kd.C_drewN ?_ _) | (with_reducible refine Kd.C_drew ?_) | exact HR297_3.out)) hb)
           replace HR297_4 := Aside0.mk (Kd.C_below (by repeat (first | (with_reducible exact HR297_4.out) | (with_reducible refine Kd.C_alloc ?_ _) | (with_reducible refine Kd.C_drewN ?_ _) | (with_reducible refine Kd.C_drew ?_) | exact HR297_4.out)) hb)
           replace HB := Aside0.mk (below_step (by repeat (first | (with_reducible first | exact HB.out | apply below_alloc | apply pw_below_drewN | apply below_drew1 | refine below_set ?_ GE285.out) | exact HB.out)) hb)
           (try clear hb)
           (try clear hb2)
           (try clear hk)
           (try clear hi)
           refine hK.out _ _ ⟨HS0_, HS1_, HS2_, HS3_, HS4_, HS5_, HS6_, HS7_, HS8_, HS9_⟩ (fun hHeld => ?_)
           clear hK K
           refine norm_ (a' := ?_) ?_ ?_
           rotate_left
           ·show Act.put _ (some 59) _ = _
            simp only [Act.put, List.setIfInBounds_toArray, List.set_cons_zero, List.set_cons_succ, i64_w, i32_w]
            rfl
           iterate 5 (refine pu_ HT_ ?_)
           refine dg_ HT_ ?_
           go_upto_region 10 with (fail)
           go_cut [79] (fun v79 wc => ∃ (kq : Nat) (x79_31 : Bool), v79 = .bool x79_31 ∧ Aside0 (idiomlaw07_TagUp.j2 kq t286 x5_2 x79_31 = some r) ∧ Aside0 (kq ≤ k2) ∧ Aside0 (Kd.S k25 25 wc w.heap.size (fun k_ => k_ ≠ gb285) (.slice (some ad296) t286.length co33) t286) ∧ Aside0 (wc.heap[gb285]? = some (.cells #[.string a0_0, .string a0_1, .string a0_2, (.slice A0_3 l0_3.length c0_3), (.slice A0_4 l0_4.length c0_4)] 25 (0, 0))) ∧ Aside0 (Kd.C Kd.string wc A296_3 ((rd_T25 t286 (ji27)).f3).length ((rd_T25 t286 (ji27)).f3)) ∧ Aside0 (Kd.C k39 wc A296_4 ((rd_T25 t286 (ji27)).f4).length ((rd_T25 t286 (ji27)).f4)) ∧ Aside0 (Kd.C Kd.string wc A297_3 ((rd_T25 t286 x5_2).f3).length ((rd_T25 t286 x5_2).f3)) ∧ Aside0 (Kd.C k39 wc A297_4 ((rd_T25 t286 x5_2).f4).length ((rd_T25 t286 x5_2).f4)) ∧ Aside0 (Below w.heap.size w wc))
           case first =>
            have H := HC32.out
            clear HC32
            by_cases c36 : t299 = 0
            ·rw [if_pos c36] at H
             have c36b0 : (t299 == 0) = true := beq_iff_eq.mpr c36
             have c36b1 : (t299 != 0) = false := bne_eq_false_iff_eq.mpr c36
             clear c36
             (first | rw [c36b0] | rw [c36b1] | rw [c36b2] | (simp only [i64_w, i32_w]; rw [c36b0]) | skip)
             (try simp only [Bool.not_true, Bool.not_false])
             by_cases c37 : t298 = true
             ·subst c37
              have H1 : ((idiomref07_Same.f k2 ((rd_T25 t286 (ji27)).f0) ((rd_T25 t286 (ji27)).f1) ((rd_T25 t286 (ji27)).f2) ((rd_T25 t286 (ji27)).f3) ((rd_T25 t286 (ji27)).f4) ((rd_T25 t286 x5_2).f0) ((rd_T25 t286 x5_2).f1) ((rd_T25 t286 x5_2).f2) ((rd_T25 t286 x5_2).f3) ((rd_T25 t286 x5_2).f4)).bind fun t302 => (idiomlaw07_TagUp.j2 k2 t286 x5_2 t302)) = some r := by rw [if_pos rfl] at H; exact H
              clear H
              have H := H1
              clear H1
              replace H := Option.bind_eq_some_iff.mp H
              obtain ⟨t302, A380, H⟩ := H
              try dsimp only at H
              have A38 := Aside0.mk A380
              clear A380
              have H' := Aside0.mk H
              clear H
              try go_wp2
              replace HO_3 := Aside0.mk (Kd.S_drew HO_3.out)
              replace HL296_3 := Aside0.mk (Kd.R_drew HL296_3.out)
              replace HL296_4 := Aside0.mk (Kd.R_drew HL296_4.out)
              replace HL297_3 := Aside0.mk (Kd.R_drew HL297_3.out)
              replace HL297_4 := Aside0.mk (Kd.R_drew HL297_4.out)
              replace BK285 := Aside0.mk (blk_drew BK285.out)
              replace HR296_3 := Aside0.mk (Kd.C_drew HR296_3.out)
              replace HR296_4 := Aside0.mk (Kd.C_drew HR296_4.out)
              replace HR297_3 := Aside0.mk (Kd.C_drew HR297_3.out)
              replace HR297_4 := Aside0.mk (Kd.C_drew HR297_4.out)
              replace HB := Aside0.mk (below_drew1 HB.out)
              have p300 : 0 ≤ ((ji27) : Int) := of_decide_eq_true (by first | (with_reducible assumption) | assumption)
              have q300 : (ji27) < (t286.length : Int) := of_decide_eq_true (by first | (with_reducible assumption) | assumption)
              obtain ⟨ad300, A300_3, c300_3, A300_4, c300_4, e300, hx300_0, hx300_1, hx300_2, hx300_3, hx300_4, hl300_3, hi300_3, hl300_4, hi300_4⟩ := at_T25 (Kd.S_reads' HO_3.out).2.2 (ji27) p300 q300
              obtain rfl : ad296 = ad300 := (by injection e300)
              obtain ⟨ce300, hce300, hMe300, hcc300⟩ := Kd.S_get HO_3.out z25 (ji27) p300 (by first | exact q300 | exact of_decide_eq_true (by first | (with_reducible assumption) | assumption) | (have e_ := (Kd.S_reads' HO_3.out).1; omega))
              obtain ⟨ve300_3, ve300_4, rfl, ge300_3, ge300_4⟩ := k25_openM hMe300
              have hv300_3 := hcc300 3 _ rfl
              rw [add_field _ _ 3 (by omega)] at hv300_3
              replace hv300_3 := Option.some.inj (hv300_3.symm.trans hx300_3)
              rw [hv300_3] at ge300_3
              have HL300_3 := Aside0.mk (show Kd.R Kd.string 9 _ _ _ _ ((rd_T25 t286 (ji27)).f3) from ge300_3)
              clear hv300_3 ge300_3
              have hv300_4 := hcc300 4 _ rfl
              rw [add_field _ _ 4 (by omega)] at hv300_4
              replace hv300_4 := Option.some.inj (hv300_4.symm.trans hx300_4)
              rw [hv300_4] at ge300_4
              have HL300_4 := Aside0.mk (show Kd.R k39 39 _ _ _ _ ((rd_T25 t286 (ji27)).f4) from ge300_4)
              clear hv300_4 ge300_4
              clear hcc300 hce300
              have HR300_3 := Aside0.mk hi300_3
              have HC300_3 := Aside0.mk hl300_3
              clear hi300_3 hl300_3
              have HR300_4 := Aside0.mk hi300_4
              have HC300_4 := Aside0.mk hl300_4
              clear hi300_4 hl300_4
              replace p300 := eq_true p300
              replace q300 := eq_true q300
              have p301 : 0 ≤ (x5_2 : Int) := of_decide_eq_true (by first | (with_reducible assumption) | assumption)
              have q301 : x5_2 < (t286.length : Int) := of_decide_eq_true (by first | (with_reducible assumption) | assumption)
              obtain ⟨ad301, A301_3, c301_3, A301_4, c301_4, e301, hx301_0, hx301_1, hx301_2, hx301_3, hx301_4, hl301_3, hi301_3, hl301_4, hi301_4⟩ := at_T25 (Kd.S_reads' HO_3.out).2.2 x5_2 p301 q301
              obtain rfl : ad296 = ad301 := (by injection e301)
              obtain ⟨ce301, hce301, hMe301, hcc301⟩ := Kd.S_get HO_3.out z25 x5_2 p301 (by first | exact q301 | exact of_decide_eq_true (by first | (with_reducible assumption) | assumption) | (have e_ := (Kd.S_reads' HO_3.out).1; omega))
              obtain ⟨ve301_3, ve301_4, rfl, ge301_3, ge301_4⟩ := k25_openM hMe301
              have hv301_3 := hcc301 3 _ rfl
              rw [add_field _ _ 3 (by omega)] at hv301_3
              replace hv301_3 := Option.some.inj (hv301_3.symm.trans hx301_3)
              rw [hv301_3] at ge301_3
              have HL301_3 := Aside0.mk (show Kd.R Kd.string 9 _ _ _ _ ((rd_T25 t286 x5_2).f3) from ge301_3)
              clear hv301_3 ge301_3
              have hv301_4 := hcc301 4 _ rfl
              rw [add_field _ _ 4 (by omega)] at hv301_4
              replace hv301_4 := Option.some.inj (hv301_4.symm.trans hx301_4)
              rw [hv301_4] at ge301_4
              have HL301_4 := Aside0.mk (show Kd.R k39 39 _ _ _ _ ((rd_T25 t286 x5_2).f4) from ge301_4)
              clear hv301_4 ge301_4
              clear hcc301 hce301
              have HR301_3 := Aside0.mk hi301_3
              have HC301_3 := Aside0.mk hl301_3
              clear hi301_3 hl301_3
              have HR301_4 := Aside0.mk hi301_4
              have HC301_4 := Aside0.mk hl301_4
              clear hi301_4 hl301_4
              replace p301 := eq_true p301
              replace q301 := eq_true q301
              refine start_ (n := 18) (S := fun w' => w'.cell? (ad296.add (((ji27)).toNat * 5)) = some (.string ((rd_T25 t286 (ji27)).f0)) ∧ w'.cell? ⟨(ad296.add (((ji27)).toNat * 5)).block, (ad296.add (((ji27)).toNat * 5)).off + 1, none⟩ = some (.string ((rd_T25 t286 (ji27)).f1)) ∧ w'.cell? ⟨(ad296.add (((ji27)).toNat * 5)).block, (ad296.add (((ji27)).toNat * 5)).off + 2, none⟩ = some (.string ((rd_T25 t286 (ji27)).f2)) ∧ w'.cell? ⟨(ad296.add (((ji27)).toNat * 5)).block, (ad296.add (((ji27)).toNat * 5)).off + 3, none⟩ = some (.slice A300_3 ((rd_T25 t286 (ji27)).f3).length c300_3) ∧ w'.cell? ⟨(ad296.add (((ji27)).toNat * 5)).block, (ad296.add (((ji27)).toNat * 5)).off + 4, none⟩ = some (.slice A300_4 ((rd_T25 t286 (ji27)).f4).length c300_4) ∧ w'.cell? (ad296.add ((x5_2).toNat * 5)) = some (.string ((rd_T25 t286 x5_2).f0)) ∧ w'.cell? ⟨(ad296.add ((x5_2).toNat * 5)).block, (ad296.add ((x5_2).toNat * 5)).off + 1, none⟩ = some (.string ((rd_T25 t286 x5_2).f1)) ∧ w'.cell? ⟨(ad296.add ((x5_2).toNat * 5)).block, (ad296.add ((x5_2).toNat * 5)).off + 2, none⟩ = some (.string ((rd_T25 t286 x5_2).f2)) ∧ w'.cell? ⟨(ad296.add ((x5_2).toNat * 5)).block, (ad296.add ((x5_2).toNat * 5)).off + 3, none⟩ = some (.slice A301_3 ((rd_T25 t286 x5_2).f3).length c301_3) ∧ w'.cell? ⟨(ad296.add ((x5_2).toNat * 5)).block, (ad296.add ((x5_2).toNat * 5)).off + 4, none⟩ = some (.slice A301_4 ((rd_T25 t286 x5_2).f4).length c301_4)) (ds := []) (bmp 18 0) (by kernel_rfl) rfl rfl ⟨hx300_0, hx300_1, hx300_2, hx300_3, hx300_4, hx301_0, hx301_1, hx301_2, hx301_3, hx301_4⟩ (fun hHeld => ?_); refine with_tabW idiomlaw07_TagUp.tab10 idiomlaw07_TagUp.bits10 (fun HT_ HW_ => ?_)
              generalize w35.drew = w39 at HO_3 HL296_3 HL296_4 HL297_3 HL297_4 BK285 HR296_3 HR296_4 HR297_3 HR297_4 HB HL300_3 HL300_4 HL301_3 HL301_4 HR300_3 HR300_4 HR301_3 HR301_4 hx300_0 hx300_1 hx300_2 hx300_3 hx300_4 hx301_0 hx301_1 hx301_2 hx301_3 hx301_4 hHeld ⊢
              iterate 11 (refine pu_ HT_ ?_)
              refine pg_ 12 (bm 18 6143) HT_ ?_
              refine pg_ 13 (bm 18 14335) HT_ ?_
              refine pg_ 14 (bm 18 30719) HT_ ?_
              refine tg_ 11 (bmp 18 15) HT_ HW_ hHeld ?_
              refine tk_ HT_ HW_ hHeld ?_
              refine one_ (i := 16) (N := some 78) (bmp 18 17) rfl rfl (one_of HT_.out (by kernel_rfl)) (by decide) (fun K hK => ?_)
              refine goes_ Tryz.func13 (by kernel_rfl) rfl #[.agg #[.string ((rd_T25 t286 (ji27)).f0), .string ((rd_T25 t286 (ji27)).f1), .string ((rd_T25 t286 (ji27)).f2), .slice A300_3 ((rd_T25 t286 (ji27)).f3).length c300_3, .slice A300_4 ((rd_T25 t286 (ji27)).f4).length c300_4], .agg #[.string ((rd_T25 t286 x5_2).f0), .string ((rd_T25 t286 x5_2).f1), .string ((rd_T25 t286 x5_2).f2), .slice A301_3 ((rd_T25 t286 x5_2).f3).length c301_3, .slice A301_4 ((rd_T25 t286 x5_2).f4).length c301_4]] (by rfl) rfl rfl (by (try simp only [List.map_toArray, List.map_cons, List.map_nil]); first | done | (simp only [hji27]; rfl) | rfl | (simp only [List.length_drop, List.length_take]; rfl)) ?_
              with_reducible refine (idiomref07_Same.calls k2 ((rd_T25 t286 (ji27)).f0) ((rd_T25 t286 (ji27)).f1) ((rd_T25 t286 (ji27)).f2) _ _ ((rd_T25 t286 (ji27)).f3) _ _ ((rd_T25 t286 (ji27)).f4) ((rd_T25 t286 x5_2).f0) ((rd_T25 t286 x5_2).f1) ((rd_T25 t286 x5_2).f2) _ _ ((rd_T25 t286 x5_2).f3) _ _ ((rd_T25 t286 x5_2).f4) t302 _ ?side1 ?side2 ?side3 ?side4 ?side5 ?side6 ?side7 ?side8 A38.out).mono ?_
              (case side1 => repeat (first | exact (by repeat (first | (with_reducible exact HR300_3.out) | (with_reducible refine Kd.C_alloc ?_ _) | (with_reducible refine Kd.C_drewN ?_ _) | (with_reducible refine Kd.C_drew ?_) | exact HR300_3.out)) | (with_reducible refine Kd.C_alloc ?_ _) | (with_reducible refine Kd.C_drewN ?_ _) | (with_reducible refine Kd.C_drew ?_)))
              (case side2 => exact HC300_3.out)
              (case side3 => repeat (first | exact (by repeat (first | (with_reducible exact HR300_4.out) | (with_reducible refine Kd.C_alloc ?_ _) | (with_reducible refine Kd.C_drewN ?_ _) | (with_reducible refine Kd.C_drew ?_) | exact HR300_4.out)) | (with_reducible refine Kd.C_alloc ?_ _) | (with_reducible refine Kd.C_drewN ?_ _) | (with_reducible refine Kd.C_drew ?_)))
              (case side4 => exact HC300_4.out)
              (case side5 => repeat (first | exact (by repeat (first | (with_reducible exact HR301_3.out) | (with_reducible refine Kd.C_alloc ?_ _) | (with_reducible refine Kd.C_drewN ?_ _) | (with_reducible refine Kd.C_drew ?_) | exact HR301_3.out)) | (with_reducible refine Kd.C_alloc ?_ _) | (with_reducible refine Kd.C_drewN ?_ _) | (with_reducible refine Kd.C_drew ?_)))
              (case side6 => exact HC301_3.out)
              (case side7 => repeat (first | exact (by repeat (first | (with_reducible exact HR301_4.out) | (with_reducible refine Kd.C_alloc ?_ _) | (with_reducible refine Kd.C_drewN ?_ _) | (with_reducible refine Kd.C_drew ?_) | exact HR301_4.out)) | (with_reducible refine Kd.C_alloc ?_ _) | (with_reducible refine Kd.C_drewN ?_ _) | (with_reducible refine Kd.C_drew ?_)))
              (case side8 => exact HC301_4.out)
              rintro e w40 ⟨rfl, hb⟩
              have HS0_ := (hb.cell (World.block_lt_of_cell? _ _ (hHeld.1))).trans (hHeld.1)
              have HS1_ := (hb.cell (World.block_lt_of_cell? _ _ (hHeld.2.1))).trans (hHeld.2.1)
              have HS2_ := (hb.cell (World.block_lt_of_cell? _ _ (hHeld.2.2.1))).trans (hHeld.2.2.1)
              have HS3_ := (hb.cell (World.block_lt_of_cell? _ _ (hHeld.2.2.2.1))).trans (hHeld.2.2.2.1)
              have HS4_ := (hb.cell (World.block_lt_of_cell? _ _ (hHeld.2.2.2.2.1))).trans (hHeld.2.2.2.2.1)
              have HS5_ := (hb.cell (World.block_lt_of_cell? _ _ (hHeld.2.2.2.2.2.1))).trans (hHeld.2.2.2.2.2.1)
              have HS6_ := (hb.cell (World.block_lt_of_cell? _ _ (hHeld.2.2.2.2.2.2.1))).trans (hHeld.2.2.2.2.2.2.1)
              have HS7_ := (hb.cell (World.block_lt_of_cell? _ _ (hHeld.2.2.2.2.2.2.2.1))).trans (hHeld.2.2.2.2.2.2.2.1)
              have HS8_ := (hb.cell (World.block_lt_of_cell? _ _ (hHeld.2.2.2.2.2.2.2.2.1))).trans (hHeld.2.2.2.2.2.2.2.2.1)
              have HS9_ := (hb.cell (World.block_lt_of_cell? _ _ (hHeld.2.2.2.2.2.2.2.2.2))).trans (hHeld.2.2.2.2.2.2.2.2.2)
              refine ⟨_, rfl, ?_⟩
              replace HO_3 := Aside0.mk (Kd.S_below (by (with_reducible repeat (first | apply Kd.S_alloc | apply Kd.S_drewN | apply Kd.S_drew)); exact HO_3.out) hb)
              replace HL296_3 := Aside0.mk (Kd.R_below (ra_ HL296_3) hb)
              replace HL296_4 := Aside0.mk (Kd.R_below (ra_ HL296_4) hb)
              replace HL297_3 := Aside0.mk (Kd.R_below (ra_ HL297_3) hb)
              replace HL297_4 := Aside0.mk (Kd.R_below (ra_ HL297_4) hb)
              replace HL300_3 := Aside0.mk (Kd.R_below (ra_ HL300_3) hb)
              replace HL300_4 := Aside0.mk (Kd.R_below (ra_ HL300_4) hb)
              replace HL301_3 := Aside0.mk (Kd.R_below (ra_ HL301_3) hb)
              replace HL301_4 := Aside0.mk (Kd.R_below (ra_ HL301_4) hb)
              replace BK285 := Aside0.mk (blk_below (g := gb285) (o := .cells #[.string a0_0, .string a0_1, .string a0_2, .slice A0_3 l0_3.length c0_3, .slice A0_4 l0_4.length c0_4] 25 (0, 0)) (bk_ BK285) hb)
              replace HR296_3 := Aside0.mk (Kd.C_below (by repeat (first | (with_reducible exact HR296_3.out) | (with_reducible refine Kd.C_alloc ?_ _) | (with_reducible refine Kd.C_drewN ?_ _) | (with_reducible refine Kd.C_drew ?_) | exact HR296_3.out)) hb)
              replace HR296_4 := Aside0.mk (Kd.C_below (by repeat (first | (with_reducible exact HR296_4.out) | (with_reducible refine Kd.C_alloc ?_ _) | (with_reducible refine Kd.C_drewN ?_ _) | (with_reducible refine Kd.C_drew ?_) | exact HR296_4.out)) hb)
              replace HR297_3 := Aside0.mk (Kd.C_below (by repeat (first | (with_reducible exact HR297_3.out) | (with_reducible refine Kd.C_alloc ?_ _) | (with_reducible refine Kd.C_drewN ?_ _) | (with_reducible refine Kd.C_drew ?_) | exact HR297_3.out)) hb)
              replace HR297_4 := Aside0.mk (Kd.C_below (by repeat (first | (with_reducible exact HR297_4.out) | (with_reducible refine Kd.C_alloc ?_ _) | (with_reducible refine Kd.C_drewN ?_ _) | (with_reducible refine Kd.C_drew ?_) | exact HR297_4.out)) hb)
              replace HR300_3 := Aside0.mk (Kd.C_below (by repeat (first | (with_reducible exact HR300_3.out) | (with_reducible refine Kd.C_alloc ?_ _) | (with_reducible refine Kd.C_drewN ?_ _) | (with_reducible refine Kd.C_drew ?_) | exact HR300_3.out)) hb)
              replace HR300_4 := Aside0.mk (Kd.C_below (by repeat (first | (with_reducible exact HR300_4.out) | (with_reducible refine Kd.C_alloc ?_ _) | (with_reducible refine Kd.C_drewN ?_ _) | (with_reducible refine Kd.C_drew ?_) | exact HR300_4.out)) hb)
              replace HR301_3 := Aside0.mk (Kd.C_below (by repeat (first | (with_reducible exact HR301_3.out) | (with_reducible refine Kd.C_alloc ?_ _) | (with_reducible refine Kd.C_drewN ?_ _) | (with_reducible refine Kd.C_drew ?_) | exact HR301_3.out)) hb)
              replace HR301_4 := Aside0.mk (Kd.C_below (by repeat (first | (with_reducible exact HR301_4.out) | (with_reducible refine Kd.C_alloc ?_ _) | (with_reducible refine Kd.C_drewN ?_ _) | (with_reducible refine Kd.C_drew ?_) | exact HR301_4.out)) hb)
              replace HB := Aside0.mk (below_step (by repeat (first | (with_reducible first | exact HB.out | apply below_alloc | apply pw_below_drewN | apply below_drew1 | refine below_set ?_ GE285.out) | exact HB.out)) hb)
              (try clear hb)
              (try clear hb2)
              (try clear hk)
              (try clear hi)
              refine hK.out _ _ ⟨HS0_, HS1_, HS2_, HS3_, HS4_, HS5_, HS6_, HS7_, HS8_, HS9_⟩ (fun hHeld => ?_)
              clear hK K
              refine norm_ (a' := ?_) ?_ ?_
              rotate_left
              ·show Act.put _ (some 78) _ = _
               simp only [Act.put, List.setIfInBounds_toArray, List.set_cons_zero, List.set_cons_succ, i64_w, i32_w]
               rfl
              refine pu_ HT_ ?_
              refine dg_ HT_ ?_
              try go_wp2
              go_meet
              case rel => exact ⟨_, (t302), (by first | rfl | (simp; done) | (simp [*]; done)), H', ⟨by have := HJ3.out; have := HK2.out; first | omega | exact Nat.le_refl _⟩, ⟨by (with_reducible repeat (first | apply Kd.S_alloc | apply Kd.S_drewN | apply Kd.S_drew)); exact HO_3.out⟩, ⟨by (with_reducible repeat (first | refine blk_drewN ?_ _ | refine blk_drew ?_ | refine blk_alloc ?_ _)); exact BK285.out⟩, ⟨by repeat (first | (with_reducible exact HR296_3.out) | (with_reducible refine Kd.C_alloc ?_ _) | (with_reducible refine Kd.C_drewN ?_ _) | (with_reducible refine Kd.C_drew ?_) | exact HR296_3.out)⟩, ⟨by repeat (first | (with_reducible exact HR296_4.out) | (with_reducible refine Kd.C_alloc ?_ _) | (with_reducible refine Kd.C_drewN ?_ _) | (with_reducible refine Kd.C_drew ?_) | exact HR296_4.out)⟩, ⟨by repeat (first | (with_reducible exact HR297_3.out) | (with_reducible refine Kd.C_alloc ?_ _) | (with_reducible refine Kd.C_drewN ?_ _) | (with_reducible refine Kd.C_drew ?_) | exact HR297_3.out)⟩, ⟨by repeat (first | (with_reducible exact HR297_4.out) | (with_reducible refine Kd.C_alloc ?_ _) | (with_reducible refine Kd.C_drewN ?_ _) | (with_reducible refine Kd.C_drew ?_) | exact HR297_4.out)⟩, ⟨by repeat (first | (with_reducible first | exact HB.out | apply below_alloc | apply pw_below_drewN | apply below_drew1 | refine below_set ?_ GE285.out) | exact HB.out)⟩⟩
             ·replace c37 := Bool.eq_false_iff.mpr c37
              subst c37
              have H1 : (idiomlaw07_TagUp.j2 k2 t286 x5_2 true) = some r := by rw [if_neg (show ¬ (false = true) by decide)] at H; exact H
              clear H
              have H := H1
              clear H1
              have H' := Aside0.mk H
              clear H
              try go_wp2
              replace HO_3 := Aside0.mk (Kd.S_drew HO_3.out)
              replace HL296_3 := Aside0.mk (Kd.R_drew HL296_3.out)
              replace HL296_4 := Aside0.mk (Kd.R_drew HL296_4.out)
              replace HL297_3 := Aside0.mk (Kd.R_drew HL297_3.out)
              replace HL297_4 := Aside0.mk (Kd.R_drew HL297_4.out)
              replace BK285 := Aside0.mk (blk_drew BK285.out)
              replace HR296_3 := Aside0.mk (Kd.C_drew HR296_3.out)
              replace HR296_4 := Aside0.mk (Kd.C_drew HR296_4.out)
              replace HR297_3 := Aside0.mk (Kd.C_drew HR297_3.out)
              replace HR297_4 := Aside0.mk (Kd.C_drew HR297_4.out)
              replace HB := Aside0.mk (below_drew1 HB.out)
              refine start_ (n := 18) (S := fun w' => True) (ds := []) (bmp 18 0) (by kernel_rfl) rfl rfl trivial (fun hHeld => ?_); refine with_tabW idiomlaw07_TagUp.tab10 idiomlaw07_TagUp.bits10 (fun HT_ HW_ => ?_)
              generalize w35.drew = w41 at HO_3 HL296_3 HL296_4 HL297_3 HL297_4 BK285 HR296_3 HR296_4 HR297_3 HR297_4 HB hHeld ⊢
              iterate 18 (first | refine sk_ HT_ ?_ | refine pu_ HT_ ?_)
              refine dg_ HT_ ?_
              try go_wp2
              go_meet
              case rel => exact ⟨_, (true), (by first | rfl | (simp; done) | (simp [*]; done)), H', ⟨by have := HJ3.out; have := HK2.out; first | omega | exact Nat.le_refl _⟩, ⟨by (with_reducible repeat (first | apply Kd.S_alloc | apply Kd.S_drewN | apply Kd.S_drew)); exact HO_3.out⟩, ⟨by (with_reducible repeat (first | refine blk_drewN ?_ _ | refine blk_drew ?_ | refine blk_alloc ?_ _)); exact BK285.out⟩, ⟨by repeat (first | (with_reducible exact HR296_3.out) | (with_reducible refine Kd.C_alloc ?_ _) | (with_reducible refine Kd.C_drewN ?_ _) | (with_reducible refine Kd.C_drew ?_) | exact HR296_3.out)⟩, ⟨by repeat (first | (with_reducible exact HR296_4.out) | (with_reducible refine Kd.C_alloc ?_ _) | (with_reducible refine Kd.C_drewN ?_ _) | (with_reducible refine Kd.C_drew ?_) | exact HR296_4.out)⟩, ⟨by repeat (first | (with_reducible exact HR297_3.out) | (with_reducible refine Kd.C_alloc ?_ _) | (with_reducible refine Kd.C_drewN ?_ _) | (with_reducible refine Kd.C_drew ?_) | exact HR297_3.out)⟩, ⟨by repeat (first | (with_reducible exact HR297_4.out) | (with_reducible refine Kd.C_alloc ?_ _) | (with_reducible refine Kd.C_drewN ?_ _) | (with_reducible refine Kd.C_drew ?_) | exact HR297_4.out)⟩, ⟨by repeat (first | (with_reducible first | exact HB.out | apply below_alloc | apply pw_below_drewN | apply below_drew1 | refine below_set ?_ GE285.out) | exact HB.out)⟩⟩
            ·rw [if_neg c36] at H
             have c36b0 : (t299 == 0) = false := beq_eq_false_iff_ne.mpr c36
             have c36b1 : (t299 != 0) = true := bne_iff_ne.mpr c36
             (first | rw [c36b0] | rw [c36b1] | rw [c36b2] | (simp only [i64_w, i32_w]; rw [c36b0]) | skip)
             (try simp only [Bool.not_true, Bool.not_false])
             have H' := Aside0.mk H
             clear H
             try go_wp2
             replace HO_3 := Aside0.mk (Kd.S_drew HO_3.out)
             replace HL296_3 := Aside0.mk (Kd.R_drew HL296_3.out)
             replace HL296_4 := Aside0.mk (Kd.R_drew HL296_4.out)
             replace HL297_3 := Aside0.mk (Kd.R_drew HL297_3.out)
             replace HL297_4 := Aside0.mk (Kd.R_drew HL297_4.out)
             replace BK285 := Aside0.mk (blk_drew BK285.out)
             replace HR296_3 := Aside0.mk (Kd.C_drew HR296_3.out)
             replace HR296_4 := Aside0.mk (Kd.C_drew HR296_4.out)
             replace HR297_3 := Aside0.mk (Kd.C_drew HR297_3.out)
             replace HR297_4 := Aside0.mk (Kd.C_drew HR297_4.out)
             replace HB := Aside0.mk (below_drew1 HB.out)
             refine start_ (n := 18) (S := fun w' => True) (ds := []) (bmp 18 0) (by kernel_rfl) rfl rfl trivial (fun hHeld => ?_); refine with_tabW idiomlaw07_TagUp.tab10 idiomlaw07_TagUp.bits10 (fun HT_ HW_ => ?_)
             generalize w35.drew = w42 at HO_3 HL296_3 HL296_4 HL297_3 HL297_4 BK285 HR296_3 HR296_4 HR297_3 HR297_4 HB hHeld ⊢
             iterate 18 (first | refine sk_ HT_ ?_ | refine pu_ HT_ ?_)
             refine dg_ HT_ ?_
             try go_wp2
             go_meet
             case rel => exact ⟨_, (true), (by first | rfl | (simp; done) | (simp [*]; done)), H', ⟨by have := HJ3.out; have := HK2.out; first | omega | exact Nat.le_refl _⟩, ⟨by (with_reducible repeat (first | apply Kd.S_alloc | apply Kd.S_drewN | apply Kd.S_drew)); exact HO_3.out⟩, ⟨by (with_reducible repeat (first | refine blk_drewN ?_ _ | refine blk_drew ?_ | refine blk_alloc ?_ _)); exact BK285.out⟩, ⟨by repeat (first | (with_reducible exact HR296_3.out) | (with_reducible refine Kd.C_alloc ?_ _) | (with_reducible refine Kd.C_drewN ?_ _) | (with_reducible refine Kd.C_drew ?_) | exact HR296_3.out)⟩, ⟨by repeat (first | (with_reducible exact HR296_4.out) | (with_reducible refine Kd.C_alloc ?_ _) | (with_reducible refine Kd.C_drewN ?_ _) | (with_reducible refine Kd.C_drew ?_) | exact HR296_4.out)⟩, ⟨by repeat (first | (with_reducible exact HR297_3.out) | (with_reducible refine Kd.C_alloc ?_ _) | (with_reducible refine Kd.C_drewN ?_ _) | (with_reducible refine Kd.C_drew ?_) | exact HR297_3.out)⟩, ⟨by repeat (first | (with_reducible exact HR297_4.out) | (with_reducible refine Kd.C_alloc ?_ _) | (with_reducible refine Kd.C_drewN ?_ _) | (with_reducible refine Kd.C_drew ?_) | exact HR297_4.out)⟩, ⟨by repeat (first | (with_reducible first | exact HB.out | apply below_alloc | apply pw_below_drewN | apply below_drew1 | refine below_set ?_ GE285.out) | exact HB.out)⟩⟩
           case rest =>
            clear HC32
            try clear c1
            try clear p2
            try clear c3
            try clear p3
            try clear q3
            try clear hx3
            try clear c13
            try clear c30
            try clear p30
            try clear q30
            try clear hx30
            try clear c36
            try clear c36b0
            try clear c36b1
            try clear c36b2
            try clear c37
            try clear hx300_0
            try clear hx300_1
            try clear hx300_2
            try clear hx300_3
            try clear hx300_4
            try clear hx301_0
            try clear hx301_1
            try clear hx301_2
            try clear hx301_3
            try clear hx301_4
            try clear p300
            try clear p301
            try clear q300
            try clear q301
            obtain ⟨kq, x79_31, rfl, HA, HJ31, HO_3, BK285, HR296_3, HR296_4, HR297_3, HR297_4, HB⟩ := hcut
            cases kq with
            | zero => exact absurd HA.out (by simp [idiomlaw07_TagUp.j2])
            | succ kj31 =>
             have H := HA.out
             clear HA
             simp only [idiomlaw07_TagUp.j2] at H
             by_cases c43 : x79_31 = true
             ·subst c43
              have H1 : (some false) = some r := by rw [if_pos rfl] at H; exact H
              clear H
              have H := H1
              clear H1
              obtain rfl := Option.some.inj H
              go_wp2
              go_ret
              exact ⟨by first | rfl | (simp [errW_none, errW_some] <;> rfl) | (simp only [← hji27]; first | rfl | (simp [errW_none, errW_some] <;> rfl)) | (simp [*, errW_none, errW_some] <;> rfl), by repeat (first | (with_reducible first | exact HB.out | apply below_alloc | apply pw_below_drewN | apply below_drew1 | refine below_set ?_ GE285.out) | exact HB.out)⟩
             ·replace c43 := Bool.eq_false_iff.mpr c43
              subst c43
              have H1 : (idiomlaw07_TagUp.l0 kj31 t286 (wrap64 (x5_2 + 1))) = some r := by rw [if_neg (show ¬ (false = true) by decide)] at H; exact H
              clear H
              have H := H1
              clear H1
              have H' := Aside0.mk H
              clear H
              go_wp2
              go_roundg kj31
              case measure => have := HJ3.out; have := HK2.out; have := HJ31.out; omega
              case rel => exact ⟨(wrap64 (x5_2 + 1)), (by first | rfl | (simp; done) | (simp [*]; done)), H', ⟨by have := HJ3.out; have := HK2.out; have := HJ31.out; omega⟩, ⟨by (with_reducible repeat (first | apply Kd.S_alloc | apply Kd.S_drewN | apply Kd.S_drew)); exact HO_3.out⟩, ⟨by (with_reducible repeat (first | refine blk_drewN ?_ _ | refine blk_drew ?_ | refine blk_alloc ?_ _)); exact BK285.out⟩, ⟨by repeat (first | (with_reducible first | exact HB.out | apply below_alloc | apply pw_below_drewN | apply below_drew1 | refine below_set ?_ GE285.out) | exact HB.out)⟩⟩
          ·rw [if_neg c30] at H
           exact absurd H (by simp)
         ·rw [if_neg c29] at H
          exact absurd H (by simp)
        ·rw [if_neg c28] at H
         exact absurd H (by simp)
       ·rw [if_neg c26] at H
        have c26b0 : decide (x5_2 < (t286.length : Int)) = false := decide_eq_false c26
        clear c26
        replace H := Option.bind_eq_some_iff.mp H
        obtain ⟨t303, A440, H⟩ := H
        try dsimp only at H
        have A44 := Aside0.mk A440
        clear A440
        obtain rfl := Option.some.inj H
        obtain ⟨Ao45, co45, eo45⟩ := Kd.S_slice HO_3.out
        subst eo45
        go_wp2_with (first | ((with_reducible refine gate_callee (f := 12) rfl ?_); refine gb_ (some 80) Tryz.func12 #[] ?_; (with_reducible refine (idiomlaw07_awake.calls k2  t303 _ (Tbl.below HT.out (by repeat (first | (with_reducible first | exact HB.out | apply below_alloc | apply pw_below_drewN | apply below_drew1 | refine below_set ?_ GE285.out) | exact HB.out))) A44.out).mono ?_); rintro e w46 ⟨rfl, hb⟩; refine ⟨_, rfl, ?_⟩; replace HO_3 := Aside0.mk (Kd.S_below (by (with_reducible repeat (first | apply Kd.S_alloc | apply Kd.S_drewN | apply Kd.S_drew)); exact HO_3.out) hb); replace BK285 := Aside0.mk (blk_below (g := gb285) (o := .cells #[.string a0_0, .string a0_1, .string a0_2, .slice A0_3 l0_3.length c0_3, .slice A0_4 l0_4.length c0_4] 25 (0, 0)) (bk_ BK285) hb); replace HB := Aside0.mk (below_step (by repeat (first | (with_reducible first | exact HB.out | apply below_alloc | apply pw_below_drewN | apply below_drew1 | refine below_set ?_ GE285.out) | exact HB.out)) hb); try clear hb))
        go_ret
        exact ⟨by first | rfl | (simp [errW_none, errW_some] <;> rfl) | (simp [*, errW_none, errW_some] <;> rfl), by repeat (first | (with_reducible first | exact HB.out | apply below_alloc | apply pw_below_drewN | apply below_drew1 | refine below_set ?_ GE285.out) | exact HB.out)⟩
 ·rw [if_neg c3] at H
  have c3b0 : (t289 == 0) = false := beq_eq_false_iff_ne.mpr c3
  have c3b1 : (t289 != 0) = true := bne_iff_ne.mpr c3
  replace H := Option.bind_eq_some_iff.mp H
  obtain ⟨t290, A470, H⟩ := H
  try dsimp only at H
  have A47 := Aside0.mk A470
  clear A470
  by_cases c48 : t289 = t290
  ·rw [if_pos c48] at H
   have c48b0 : (t289 == t290) = true := beq_iff_eq.mpr c48
   have c48b1 : (t289 != t290) = false := bne_eq_false_iff_eq.mpr c48
   clear c48
   replace H := Option.bind_eq_some_iff.mp H
   obtain ⟨t291, A490, H⟩ := H
   try dsimp only at H
   have A49 := Aside0.mk A490
   clear A490
   obtain rfl := Option.some.inj H
   go_enter Tryz.func3, Tryz.ntmps3
   go_wp2_with (first | ((with_reducible refine gate_dst (N := 1) rfl ?_); (try (refine gate_guard (by rfl) ?_; dsimp only)); refine box_event ?hg (N := 1) ?hd (cs := #[.string a0_0, .string a0_1, .string a0_2, .slice A0_3 l0_3.length c0_3, .slice A0_4 l0_4.length c0_4]) (t := 25) ?hr ?_; (case hd => rfl); (case hg => rfl); (case hr => first | (go_simp; done) | (go_simp; rfl)); intro gb285 hg w50 hbox hb; have BK285 := Aside0.mk (hbox); have GW285 := Aside0.mk ((by rw [hg]; exact hz_ : w.heap.size ≤ gb285)); have GE285 := Aside0.mk ((by rw [hg]; exact hz_ : w.heap.size ≤ gb285)); replace HB := Aside0.mk (below_step hb_ hb); clear hb hbox hg; obtain ⟨hcz51_0, hcz51_1, hcz51_2, hcz51_3, hcz51_4, hfz51_0, hfz51_1, hfz51_2, hfz51_3, hfz51_4⟩ := c5_ BK285) | ((with_reducible refine gate_callee (f := 10) rfl ?_); refine gb_ (some 10) Tryz.func10 #[.agg #[.string a0_0, .string a0_1, .string a0_2, .slice A0_3 l0_3.length c0_3, .slice A0_4 l0_4.length c0_4], .slice none 0 0] ?_; (refine (tag_Chain.calls k a0_0 a0_1 a0_2 _ _ l0_3 _ _ l0_4 _ _ ([] : List (S45)) t286 t289 _ ?side1 ?side2 ?side3 ?side4 ?side5 ?side6 (Tbl.below HT.out (by repeat (first | (with_reducible first | exact HB.out | apply below_alloc | apply pw_below_drewN | apply below_drew1 | refine below_set ?_ GE285.out) | exact HB.out))) A2.out).mono ?_); (case side1 => repeat (first | exact (Kd.C_below HR0_3.out HB.out) | (with_reducible refine Kd.C_alloc ?_ _) | (with_reducible refine Kd.C_drewN ?_ _) | (with_reducible refine Kd.C_drew ?_))); (case side2 => exact HC0_3.out); (case side3 => repeat (first | exact (Kd.C_below HR0_4.out HB.out) | (with_reducible refine Kd.C_alloc ?_ _) | (with_reducible refine Kd.C_drewN ?_ _) | (with_reducible refine Kd.C_drew ?_))); (case side4 => exact HC0_4.out); (case side5 => exact Kd.C_nil _ _); (case side6 => exact Nat.le_refl _); rintro e w52 ⟨v287, rfl, ho0, hb⟩; refine ⟨_, rfl, ?_⟩; have HO288 := Aside0.mk (Kd.S_lower (Kd.S_newB ho0 (g := gb285) (o := .cells #[.string a0_0, .string a0_1, .string a0_2, .slice A0_3 l0_3.length c0_3, .slice A0_4 l0_4.length c0_4] 25 (0, 0)) (bk_ BK285)) (below_size (by repeat (first | (with_reducible first | exact HB.out | apply below_alloc | apply pw_below_drewN | apply below_drew1 | refine below_set ?_ GE285.out) | exact HB.out)))); replace BK285 := Aside0.mk (blk_below (g := gb285) (o := .cells #[.string a0_0, .string a0_1, .string a0_2, .slice A0_3 l0_3.length c0_3, .slice A0_4 l0_4.length c0_4] 25 (0, 0)) (bk_ BK285) hb); replace HB := Aside0.mk (below_step (by repeat (first | (with_reducible first | exact HB.out | apply below_alloc | apply pw_below_drewN | apply below_drew1 | refine below_set ?_ GE285.out) | exact HB.out)) hb); try clear hb; (try clear ho0); obtain ⟨hcz53_0, hcz53_1, hcz53_2, hcz53_3, hcz53_4, hfz53_0, hfz53_1, hfz53_2, hfz53_3, hfz53_4⟩ := c5_ BK285) | ((with_reducible refine gate_callee (f := 11) rfl ?_); refine gb_ (some 17) Tryz.func11 #[.agg #[.string a0_0, .string a0_1, .string a0_2, .slice A0_3 l0_3.length c0_3, .slice A0_4 l0_4.length c0_4]] ?_; (with_reducible refine (idiomref07_Check.calls k a0_0 a0_1 a0_2 _ _ l0_3 _ _ l0_4 t290 _ ?side1 ?side2 ?side3 ?side4 A47.out).mono ?_); (case side1 => repeat (first | exact (Kd.C_below HR0_3.out HB.out) | (with_reducible refine Kd.C_alloc ?_ _) | (with_reducible refine Kd.C_drewN ?_ _) | (with_reducible refine Kd.C_drew ?_))); (case side2 => exact HC0_3.out); (case side3 => repeat (first | exact (Kd.C_below HR0_4.out HB.out) | (with_reducible refine Kd.C_alloc ?_ _) | (with_reducible refine Kd.C_drewN ?_ _) | (with_reducible refine Kd.C_drew ?_))); (case side4 => exact HC0_4.out); rintro e w54 ⟨rfl, hb⟩; refine ⟨_, rfl, ?_⟩; replace HO288 := Aside0.mk (Kd.S_below (by (with_reducible repeat (first | apply Kd.S_alloc | apply Kd.S_drewN | apply Kd.S_drew)); exact HO288.out) hb); replace BK285 := Aside0.mk (blk_below (g := gb285) (o := .cells #[.string a0_0, .string a0_1, .string a0_2, .slice A0_3 l0_3.length c0_3, .slice A0_4 l0_4.length c0_4] 25 (0, 0)) (bk_ BK285) hb); replace HB := Aside0.mk (below_step (by repeat (first | (with_reducible first | exact HB.out | apply below_alloc | apply pw_below_drewN | apply below_drew1 | refine below_set ?_ GE285.out) | exact HB.out)) hb); try clear hb) | (go_at_call 12; (with_reducible refine (idiomlaw07_awake.calls k  t291 _ (Tbl.below HT.out (by repeat (first | (with_reducible first | exact HB.out | apply below_alloc | apply pw_below_drewN | apply below_drew1 | refine below_set ?_ GE285.out) | exact HB.out))) A49.out).mono ?_); rintro e w55 ⟨rfl, hb⟩; replace HO288 := Aside0.mk (Kd.S_below (by (with_reducible repeat (first | apply Kd.S_alloc | apply Kd.S_drewN | apply Kd.S_drew)); exact HO288.out) hb); replace BK285 := Aside0.mk (blk_below (g := gb285) (o := .cells #[.string a0_0, .string a0_1, .string a0_2, .slice A0_3 l0_3.length c0_3, .slice A0_4 l0_4.length c0_4] 25 (0, 0)) (bk_ BK285) hb); replace HB := Aside0.mk (below_step (by repeat (first | (with_reducible first | exact HB.out | apply below_alloc | apply pw_below_drewN | apply below_drew1 | refine below_set ?_ GE285.out) | exact HB.out)) hb); try clear hb))
   go_ret
   exact ⟨by first | rfl | (simp [errW_none, errW_some] <;> rfl) | (simp [*, errW_none, errW_some] <;> rfl), by repeat (first | (with_reducible first | exact HB.out | apply below_alloc | apply pw_below_drewN | apply below_drew1 | refine below_set ?_ GE285.out) | exact HB.out)⟩
  ·rw [if_neg c48] at H
   have c48b0 : (t289 == t290) = false := beq_eq_false_iff_ne.mpr c48
   have c48b1 : (t289 != t290) = true := bne_iff_ne.mpr c48
   obtain rfl := Option.some.inj H
   go_enter Tryz.func3, Tryz.ntmps3
   go_wp2_with (first | ((with_reducible refine gate_dst (N := 1) rfl ?_); (try (refine gate_guard (by rfl) ?_; dsimp only)); refine box_event ?hg (N := 1) ?hd (cs := #[.string a0_0, .string a0_1, .string a0_2, .slice A0_3 l0_3.length c0_3, .slice A0_4 l0_4.length c0_4]) (t := 25) ?hr ?_; (case hd => rfl); (case hg => rfl); (case hr => first | (go_simp; done) | (go_simp; rfl)); intro gb285 hg w56 hbox hb; have BK285 := Aside0.mk (hbox); have GW285 := Aside0.mk ((by rw [hg]; exact hz_ : w.heap.size ≤ gb285)); have GE285 := Aside0.mk ((by rw [hg]; exact hz_ : w.heap.size ≤ gb285)); replace HB := Aside0.mk (below_step hb_ hb); clear hb hbox hg; obtain ⟨hcz57_0, hcz57_1, hcz57_2, hcz57_3, hcz57_4, hfz57_0, hfz57_1, hfz57_2, hfz57_3, hfz57_4⟩ := c5_ BK285) | ((with_reducible refine gate_callee (f := 10) rfl ?_); refine gb_ (some 10) Tryz.func10 #[.agg #[.string a0_0, .string a0_1, .string a0_2, .slice A0_3 l0_3.length c0_3, .slice A0_4 l0_4.length c0_4], .slice none 0 0] ?_; (refine (tag_Chain.calls k a0_0 a0_1 a0_2 _ _ l0_3 _ _ l0_4 _ _ ([] : List (S45)) t286 t289 _ ?side1 ?side2 ?side3 ?side4 ?side5 ?side6 (Tbl.below HT.out (by repeat (first | (with_reducible first | exact HB.out | apply below_alloc | apply pw_below_drewN | apply below_drew1 | refine below_set ?_ GE285.out) | exact HB.out))) A2.out).mono ?_); (case side1 => repeat (first | exact (Kd.C_below HR0_3.out HB.out) | (with_reducible refine Kd.C_alloc ?_ _) | (with_reducible refine Kd.C_drewN ?_ _) | (with_reducible refine Kd.C_drew ?_))); (case side2 => exact HC0_3.out); (case side3 => repeat (first | exact (Kd.C_below HR0_4.out HB.out) | (with_reducible refine Kd.C_alloc ?_ _) | (with_reducible refine Kd.C_drewN ?_ _) | (with_reducible refine Kd.C_drew ?_))); (case side4 => exact HC0_4.out); (case side5 => exact Kd.C_nil _ _); (case side6 => exact Nat.le_refl _); rintro e w58 ⟨v287, rfl, ho0, hb⟩; refine ⟨_, rfl, ?_⟩; have HO288 := Aside0.mk (Kd.S_lower (Kd.S_newB ho0 (g := gb285) (o := .cells #[.string a0_0, .string a0_1, .string a0_2, .slice A0_3 l0_3.length c0_3, .slice A0_4 l0_4.length c0_4] 25 (0, 0)) (bk_ BK285)) (below_size (by repeat (first | (with_reducible first | exact HB.out | apply below_alloc | apply pw_below_drewN | apply below_drew1 | refine below_set ?_ GE285.out) | exact HB.out)))); replace BK285 := Aside0.mk (blk_below (g := gb285) (o := .cells #[.string a0_0, .string a0_1, .string a0_2, .slice A0_3 l0_3.length c0_3, .slice A0_4 l0_4.length c0_4] 25 (0, 0)) (bk_ BK285) hb); replace HB := Aside0.mk (below_step (by repeat (first | (with_reducible first | exact HB.out | apply below_alloc | apply pw_below_drewN | apply below_drew1 | refine below_set ?_ GE285.out) | exact HB.out)) hb); try clear hb; (try clear ho0); obtain ⟨hcz59_0, hcz59_1, hcz59_2, hcz59_3, hcz59_4, hfz59_0, hfz59_1, hfz59_2, hfz59_3, hfz59_4⟩ := c5_ BK285) | ((with_reducible refine gate_callee (f := 11) rfl ?_); refine gb_ (some 17) Tryz.func11 #[.agg #[.string a0_0, .string a0_1, .string a0_2, .slice A0_3 l0_3.length c0_3, .slice A0_4 l0_4.length c0_4]] ?_; (with_reducible refine (idiomref07_Check.calls k a0_0 a0_1 a0_2 _ _ l0_3 _ _ l0_4 t290 _ ?side1 ?side2 ?side3 ?side4 A47.out).mono ?_); (case side1 => repeat (first | exact (Kd.C_below HR0_3.out HB.out) | (with_reducible refine Kd.C_alloc ?_ _) | (with_reducible refine Kd.C_drewN ?_ _) | (with_reducible refine Kd.C_drew ?_))); (case side2 => exact HC0_3.out); (case side3 => repeat (first | exact (Kd.C_below HR0_4.out HB.out) | (with_reducible refine Kd.C_alloc ?_ _) | (with_reducible refine Kd.C_drewN ?_ _) | (with_reducible refine Kd.C_drew ?_))); (case side4 => exact HC0_4.out); rintro e w60 ⟨rfl, hb⟩; refine ⟨_, rfl, ?_⟩; replace HO288 := Aside0.mk (Kd.S_below (by (with_reducible repeat (first | apply Kd.S_alloc | apply Kd.S_drewN | apply Kd.S_drew)); exact HO288.out) hb); replace BK285 := Aside0.mk (blk_below (g := gb285) (o := .cells #[.string a0_0, .string a0_1, .string a0_2, .slice A0_3 l0_3.length c0_3, .slice A0_4 l0_4.length c0_4] 25 (0, 0)) (bk_ BK285) hb); replace HB := Aside0.mk (below_step (by repeat (first | (with_reducible first | exact HB.out | apply below_alloc | apply pw_below_drewN | apply below_drew1 | refine below_set ?_ GE285.out) | exact HB.out)) hb); try clear hb))
   go_ret
   exact ⟨by first | rfl | (simp [errW_none, errW_some] <;> rfl) | (simp [*, errW_none, errW_some] <;> rfl), by repeat (first | (with_reducible first | exact HB.out | apply below_alloc | apply pw_below_drewN | apply below_drew1 | refine below_set ?_ GE285.out) | exact HB.out)⟩
end Go.Proofs.YtphjhbppjakocaaGreatDoor.PTag
