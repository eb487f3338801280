/- Printed by a program (the kit's print.py with changes of this session) out of Lean's own print of the program: functions of the program as plain Lean functions, and that each call comes to what they say; conditions: those that each theorem states. Not trusted: Lean checks it. -/
import Derived.Test.YtalojokihccboaaPListsx0
import Derived.Test.YtalojokihccboaaPListsx6
namespace Go.Proofs.Ytalojokihccboaa.PLists
open Go.RowKit Go.Proofs.YtalojokihccboaaW.PrintWords Go.Proofs.YtalojokihccboaaW.PrintLast Go.Proofs.YtalojokihccboaaW.PrintMore
attribute [local go_sem] max2_int min2_int max_two min_two max_three min_three max_four min_four   -- for this text's walks alone
set_option linter.unusedVariables false
set_option linter.unusedSimpArgs false

attribute [local go_sem] setCell_drewN_ cell_put_twice_
/-! ### idiomref01_Fill: function 21 -/
mutual
def idiomref01_Fill.l0 : Nat → ByteArray → List ByteArray → List Int → Int → Option (ByteArray × Int)
  | 0, _, _, _, _ => none
  | k + 1, x0, x1, x6, x7 => if x7 < (x0.size : Int) then (if 0 ≤ x7 then (if x7 ≤ (wrap64 (x7 + 1)) then (if (wrap64 (x7 + 1)) ≤ (x0.size : Int) then (if (bt x0 x7) = 123 then (if (wrap64 (x7 + 2)) ≥ (x0.size : Int) then (idiomref01_Fill.j1 k x0 x1 x6 x7 true) else (if 0 ≤ (wrap64 (x7 + 1)) then (if (wrap64 (x7 + 1)) < (x0.size : Int) then ((idiomref01_Digit.f (bt x0 (wrap64 (x7 + 1)))).bind fun t160 => (if t160 = true then (if 0 ≤ (wrap64 (x7 + 2)) then (if (wrap64 (x7 + 2)) < (x0.size : Int) then (if (bt x0 (wrap64 (x7 + 2))) = 125 then (idiomref01_Fill.j1 k x0 x1 x6 x7 (decide ((((bt x0 (wrap64 (x7 + 1))) - 48) % 256) ≥ (x1.length : Int)))) else (idiomref01_Fill.j1 k x0 x1 x6 x7 true)) else (none)) else (none)) else (idiomref01_Fill.j1 k x0 x1 x6 x7 true))) else (none)) else (none))) else (if ((x0.extract (x7 : Int).toNat ((wrap64 (x7 + 1)) : Int).toNat).size : Int) > (wrap64 (1048576 - (x6.length : Int))) then (some ((⟨#[]⟩ : ByteArray), 2)) else (if x6.length + (x0.extract (x7 : Int).toNat ((wrap64 (x7 + 1)) : Int).toNat).size < 140737488355328 then (idiomref01_Fill.l0 k x0 x1 (x6 ++ bytesOf (x0.extract (x7 : Int).toNat ((wrap64 (x7 + 1)) : Int).toNat)) (wrap64 (x7 + 1))) else (none)))) else (none)) else (none)) else (none)) else (some (strOfNums x6, 0))
def idiomref01_Fill.j1 : Nat → ByteArray → List ByteArray → List Int → Int → Bool → Option (ByteArray × Int)
  | 0, _, _, _, _, _ => none
  | k + 1, x0, x1, x6, x7, x57 => if x57 = true then (some ((⟨#[]⟩ : ByteArray), 11)) else (if 0 ≤ (wrap64 (x7 + 1)) then (if (wrap64 (x7 + 1)) < (x0.size : Int) then (if 0 ≤ (((bt x0 (wrap64 (x7 + 1))) - 48) % 256) then (if (((bt x0 (wrap64 (x7 + 1))) - 48) % 256) < (x1.length : Int) then (if ((rdOf ByteArray.empty x1 (((bt x0 (wrap64 (x7 + 1))) - 48) % 256)).size : Int) > (wrap64 (1048576 - (x6.length : Int))) then (some ((⟨#[]⟩ : ByteArray), 2)) else (if x6.length + (rdOf ByteArray.empty x1 (((bt x0 (wrap64 (x7 + 1))) - 48) % 256)).size < 140737488355328 then (idiomref01_Fill.l0 k x0 x1 (x6 ++ bytesOf (rdOf ByteArray.empty x1 (((bt x0 (wrap64 (x7 + 1))) - 48) % 256))) (wrap64 (x7 + 3))) else (none))) else (none)) else (none)) else (none)) else (none))
end
def idiomref01_Fill.f (k : Nat) (a0 : ByteArray) (l1 : List ByteArray) : Option (ByteArray × Int) := if (a0.size : Int) > 65536 then (some ((⟨#[]⟩ : ByteArray), 2)) else (idiomref01_Fill.l0 k a0 l1 (([] : List Int)) 0)
theorem idiomref01_Fill.mono_l : ∀ k, (∀ y0 y1 y2 y3, LeO (idiomref01_Fill.l0 k y0 y1 y2 y3) (idiomref01_Fill.l0 (k + 1) y0 y1 y2 y3)) ∧ (∀ y0 y1 y2 y3 y4, LeO (idiomref01_Fill.j1 k y0 y1 y2 y3 y4) (idiomref01_Fill.j1 (k + 1) y0 y1 y2 y3 y4))
  | 0 => ⟨fun _ _ _ _ r h => by simp [idiomref01_Fill.l0] at h, fun _ _ _ _ _ r h => by simp [idiomref01_Fill.j1] at h⟩
  | k + 1 => by
    obtain ⟨ih0, ih1⟩ := idiomref01_Fill.mono_l k
    refine ⟨?_, ?_⟩
    · intro y0 y1 y2 y3
      unfold idiomref01_Fill.l0
      repeat' first
      | (with_reducible exact ih0 _ _ _ _)
      | (with_reducible exact ih1 _ _ _ _ _)
      | (with_reducible exact LeO.refl _)
      | (with_reducible exact LeO.none _)
      | (with_reducible refine LeO.ite ?_ ?_)
      | (with_reducible refine LeO.bind ?_ (fun _ => ?_))
      | exact ih0 _ _ _ _
      | exact ih1 _ _ _ _ _
      | exact LeO.none _
      | refine LeO.ite ?_ ?_
      | refine LeO.bind ?_ (fun _ => ?_)
    · intro y0 y1 y2 y3 y4
      unfold idiomref01_Fill.j1
      repeat' first
      | (with_reducible exact ih0 _ _ _ _)
      | (with_reducible exact ih1 _ _ _ _ _)
      | (with_reducible exact LeO.refl _)
      | (with_reducible exact LeO.none _)
      | (with_reducible refine LeO.ite ?_ ?_)
      | (with_reducible refine LeO.bind ?_ (fun _ => ?_))
      | exact ih0 _ _ _ _
      | exact ih1 _ _ _ _ _
      | exact LeO.none _
      | refine LeO.ite ?_ ?_
      | refine LeO.bind ?_ (fun _ => ?_)
theorem idiomref01_Fill.mono : ∀ a0 a1 k, LeO (idiomref01_Fill.f k a0 a1) (idiomref01_Fill.f (k + 1) a0 a1) := by
  intro a0 a1 k
  obtain ⟨ih0, ih1⟩ := idiomref01_Fill.mono_l k
  unfold idiomref01_Fill.f
  repeat' first
      | (with_reducible exact ih0 _ _ _ _)
      | (with_reducible exact ih1 _ _ _ _ _)
      | (with_reducible exact LeO.refl _)
      | (with_reducible exact LeO.none _)
      | (with_reducible refine LeO.ite ?_ ?_)
      | (with_reducible refine LeO.bind ?_ (fun _ => ?_))
      | exact ih0 _ _ _ _
      | exact ih1 _ _ _ _ _
      | exact LeO.none _
      | refine LeO.ite ?_ ?_
      | refine LeO.bind ?_ (fun _ => ?_)
set_option maxHeartbeats 8000000 in
set_option maxRecDepth 100000 in
theorem idiomref01_Fill.calls (k : Nat) (a0 : ByteArray) (A1 : Option Addr) (c1 : Nat) (l1 : List ByteArray) (r1 : ByteArray) (r2 : Int) (w : World) (hr1 : Kd.C Kd.string w A1 l1.length l1) (hc1 : l1.length ≤ c1) (h : idiomref01_Fill.f k a0 l1 = some (r1, r2)) :
    Calls Try.prog 21 #[.string a0, .slice A1 l1.length c1] w fun e w' => e = .returned (.tuple #[.string r1, .int .i64 r2]) ∧ Below w.heap.size w w' := by
  have HR1 := Aside0.mk hr1
  have HC1 := Aside0.mk hc1
  clear hr1 hc1
  have HB := Aside0.mk (Below.refl w.heap.size w)
  have H : (if (a0.size : Int) > 65536 then (some ((⟨#[]⟩ : ByteArray), 2)) else (idiomref01_Fill.l0 k a0 l1 (([] : List Int)) 0)) = some (r1, r2) := h
  clear h
  by_cases c3 : (a0.size : Int) > 65536
  · rw [if_pos c3] at H
    have c3b0 : decide (65536 < (a0.size : Int)) = true := decide_eq_true c3
    have c3b1 : decide (65536 < a0.size) = true := decide_eq_true (by omega)
    clear c3
    simp only [Option.some.injEq, Prod.mk.injEq] at H
    obtain ⟨rfl, rfl⟩ := H
    go_enter Try.func21, Try.ntmps21
    go_wp2
    go_ret2
    exact ⟨by first | rfl | (simp [errW_none, errW_some] <;> rfl) | (simp [*, errW_none, errW_some] <;> rfl), by repeat (first | (with_reducible first | exact HB.out | apply below_alloc | apply pw_below_drewN | apply below_drew1) | exact HB.out)⟩
  · rw [if_neg c3] at H
    have c3b0 : decide (65536 < (a0.size : Int)) = false := decide_eq_false c3
    have c3b1 : decide (65536 < a0.size) = false := decide_eq_false (by omega)
    clear c3
    obtain ⟨y157, hy157⟩ : ∃ y_ : List Int, y_ = (([] : List Int)) := ⟨_, rfl⟩
    replace H : (idiomref01_Fill.l0 k a0 l1 y157 0) = some (r1, r2) := by first | (rw [hy157]; with_reducible exact H) | (have H2_ := (Option.bind_some _ _).symm.trans H; rw [hy157]; with_reducible exact H2_) | (have H2_ := (Option.bind_some _ _).symm.trans H; with_reducible exact H2_) | with_reducible exact H | (rw [hy157]; exact H) | exact H
    have Ny157 := Aside0.mk hy157
    clear hy157
    have H' := Aside0.mk H
    clear H
    go_enter Try.func21, Try.ntmps21
    go_wp2_with (first | ((with_reducible refine gate_dst (N := 13) rfl ?_); (try (refine gate_guard (by rfl) ?_; dsimp only)); refine Kd.R_lit (Kd.int .u8) _ 5 ?hg (N := 13) ?hd (xs := ([] : List Int)) (inner := []) (ok := fun _ => True) (okp := fun _ => True) ?hr ?hp (fun _ hk => hk) trivial (Below.refl _ _) (Nat.le_refl _) (by simp) ?_; (case hd => rfl); (case hg => rfl); (case hr => first | (go_simp; done) | (go_simp; rfl)); (case hp => exact (Reps.none _ _)); intro v158 w4 ho5 hb hg_ hnew_; clear hg_ hnew_; (first | rw [← Ny157.out] at ho5 | (simp only [Int.reduceToNat] at ho5; rw [← Ny157.out] at ho5)); have n0_ := Aside0.mk (Kd.R_lower ho5 (below_size (by repeat (first | (with_reducible first | exact HB.out | apply below_alloc | apply pw_below_drewN | apply below_drew1) | exact HB.out)))); have n1_ := Aside0.mk (below_step (by repeat (first | (with_reducible first | exact HB.out | apply below_alloc | apply pw_below_drewN | apply below_drew1) | exact HB.out)) hb); clear HB; have HO159 := n0_; have HB := n1_; clear n0_ n1_; clear hb ho5))
    go_loopg [6, 7] k (fun kq v6 v7 w' => ∃ (x6_1 : List Int) (x7_1 : Int), v7 = .int .i64 x7_1 ∧ Aside0 (idiomref01_Fill.l0 kq a0 l1 x6_1 x7_1 = some (r1, r2)) ∧ Aside0 (kq ≤ k) ∧ Aside0 (Kd.R (Kd.int .u8) 5 w' w.heap.size (fun _ => True) v6 x6_1) ∧ Aside0 (Below w.heap.size w w'))
    case atStart => exact ⟨(y157), (0), (by first | rfl | (simp; done) | (simp [*]; done)), H', ⟨Nat.le_refl _⟩, ⟨by (with_reducible repeat (first | apply Kd.R_alloc | apply Kd.R_drewN | apply Kd.R_drew)); exact HO159.out⟩, ⟨by repeat (first | (with_reducible first | exact HB.out | apply below_alloc | apply pw_below_drewN | apply below_drew1) | exact HB.out)⟩⟩
    case round =>
      clear H'
      try clear c1
      try clear c2
      try clear p2
      try clear c3
      try clear c3b0
      try clear c3b1
      obtain ⟨x6_1, x7_1, rfl, HA, HK1, HO_6, HB⟩ := hrel
      cases gk with
      | zero => exact absurd HA.out (by simp [idiomref01_Fill.l0])
      | succ k1 =>
        have H := HA.out
        clear HA
        simp only [idiomref01_Fill.l0] at H
        by_cases c6 : x7_1 < (a0.size : Int)
        · rw [if_pos c6] at H
          have c6b0 : decide (x7_1 < (a0.size : Int)) = true := decide_eq_true c6
          clear c6
          by_cases c7 : 0 ≤ x7_1
          · rw [if_pos c7] at H
            have c7b0 := eq_true c7
            have c7b1 : decide (0 ≤ x7_1) = true := decide_eq_true c7
            clear c7
            by_cases c8 : x7_1 ≤ (wrap64 (x7_1 + 1))
            · rw [if_pos c8] at H
              have c8b0 := eq_true c8
              have c8b1 : decide (x7_1 ≤ (wrap64 (x7_1 + 1))) = true := decide_eq_true c8
              by_cases c9 : (wrap64 (x7_1 + 1)) ≤ (a0.size : Int)
              · rw [if_pos c9] at H
                have c9b0 := eq_true c9
                have c9b1 : decide ((wrap64 (x7_1 + 1)) ≤ (a0.size : Int)) = true := decide_eq_true c9
                by_cases c11 : (bt a0 x7_1) = 123
                · rw [if_pos c11] at H
                  have c11b0 : ((bt a0 x7_1) == 123) = true := beq_iff_eq.mpr c11
                  have c11b1 : ((bt a0 x7_1) != 123) = false := bne_eq_false_iff_eq.mpr c11
                  clear c11
                  have HC12 := Aside0.mk H
                  clear H
                  have p10 : 0 ≤ (x7_1 : Int) := of_decide_eq_true (by first | (with_reducible assumption) | assumption)
                  have q10 : x7_1 < (a0.size : Int) := of_decide_eq_true (by first | (with_reducible assumption) | assumption)
                  have hx10 := bt_at a0 x7_1
                  replace p10 := eq_true p10
                  replace q10 := eq_true q10
                  go_upto_region 8 with (fail)
                  go_cut [57] (fun v57 wc => ∃ (kq : Nat) (x57_11 : Bool), v57 = .bool x57_11 ∧ Aside0 (idiomref01_Fill.j1 kq a0 l1 x6_1 x7_1 x57_11 = some (r1, r2)) ∧ Aside0 (kq ≤ k1) ∧ Aside0 (Kd.R (Kd.int .u8) 5 wc w.heap.size (fun _ => True) u6 x6_1) ∧ Aside0 (Below w.heap.size w wc))
                  case first =>
                    have H := HC12.out
                    clear HC12
                    by_cases c13 : (wrap64 (x7_1 + 2)) ≥ (a0.size : Int)
                    · rw [if_pos c13] at H
                      have c13b0 : decide ((a0.size : Int) ≤ (wrap64 (x7_1 + 2))) = true := decide_eq_true c13
                      clear c13
                      (first | rw [c13b0] | (simp only [i64_w, i32_w]; rw [c13b0]) | skip)
                      have H' := Aside0.mk H
                      clear H
                      go_wp2
                      go_meet
                      case rel => exact ⟨_, (true), (by first | rfl | (simp; done) | (simp [*]; done)), H', ⟨by have := HK1.out; first | omega | exact Nat.le_refl _⟩, ⟨by (with_reducible repeat (first | apply Kd.R_alloc | apply Kd.R_drewN | apply Kd.R_drew)); exact HO_6.out⟩, ⟨by repeat (first | (with_reducible first | exact HB.out | apply below_alloc | apply pw_below_drewN | apply below_drew1) | exact HB.out)⟩⟩
                    · rw [if_neg c13] at H
                      have c13b0 : decide ((a0.size : Int) ≤ (wrap64 (x7_1 + 2))) = false := decide_eq_false c13
                      clear c13
                      (first | rw [c13b0] | (simp only [i64_w, i32_w]; rw [c13b0]) | skip)
                      obtain ⟨ji14, hji14⟩ : ∃ j_ : Int, (wrap64 (x7_1 + 1)) = j_ := ⟨_, rfl⟩
                      replace H : (if 0 ≤ (ji14) then (if (ji14) < (a0.size : Int) then ((idiomref01_Digit.f (bt a0 (ji14))).bind fun t160 => (if t160 = true then (if 0 ≤ (wrap64 (x7_1 + 2)) then (if (wrap64 (x7_1 + 2)) < (a0.size : Int) then (if (bt a0 (wrap64 (x7_1 + 2))) = 125 then (idiomref01_Fill.j1 k1 a0 l1 x6_1 x7_1 (decide ((((bt a0 (ji14)) - 48) % 256) ≥ (l1.length : Int)))) else (idiomref01_Fill.j1 k1 a0 l1 x6_1 x7_1 true)) else (none)) else (none)) else (idiomref01_Fill.j1 k1 a0 l1 x6_1 x7_1 true))) else (none)) else (none)) = some (r1, r2) := by first | (rw [hji14] at H; exact H) | (simp only [hji14] at H ⊢; exact H)
                      (try rw [hji14] at c8b0)
                      (try rw [hji14] at c8b1)
                      (try rw [hji14] at c8)
                      (try rw [hji14] at c9b0)
                      (try rw [hji14] at c9b1)
                      (try rw [hji14] at c9)
                      have hji14w : (IntKind.i64.wrap (x7_1 + 1)) = ji14 := (i64_w _).trans hji14
                      by_cases c15 : 0 ≤ (ji14)
                      · rw [if_pos c15] at H
                        have c15b0 : decide (0 ≤ (ji14)) = true := decide_eq_true c15
                        clear c15
                        by_cases c16 : (ji14) < (a0.size : Int)
                        · rw [if_pos c16] at H
                          have c16b0 : decide ((ji14) < (a0.size : Int)) = true := decide_eq_true c16
                          clear c16
                          replace H := Option.bind_eq_some_iff.mp H
                          obtain ⟨t160, A180, H⟩ := H
                          replace H : (if t160 = true then (if 0 ≤ (wrap64 (x7_1 + 2)) then (if (wrap64 (x7_1 + 2)) < (a0.size : Int) then (if (bt a0 (wrap64 (x7_1 + 2))) = 125 then (idiomref01_Fill.j1 k1 a0 l1 x6_1 x7_1 (decide ((((bt a0 (ji14)) - 48) % 256) ≥ (l1.length : Int)))) else (idiomref01_Fill.j1 k1 a0 l1 x6_1 x7_1 true)) else (none)) else (none)) else (idiomref01_Fill.j1 k1 a0 l1 x6_1 x7_1 true)) = some (r1, r2) := H
                          have A18 := Aside0.mk A180
                          clear A180
                          by_cases c19 : t160 = true
                          · subst c19
                            have H1 : (if 0 ≤ (wrap64 (x7_1 + 2)) then (if (wrap64 (x7_1 + 2)) < (a0.size : Int) then (if (bt a0 (wrap64 (x7_1 + 2))) = 125 then (idiomref01_Fill.j1 k1 a0 l1 x6_1 x7_1 (decide ((((bt a0 (ji14)) - 48) % 256) ≥ (l1.length : Int)))) else (idiomref01_Fill.j1 k1 a0 l1 x6_1 x7_1 true)) else (none)) else (none)) = some (r1, r2) := by rw [if_pos rfl] at H; exact H
                            clear H
                            have H := H1
                            clear H1
                            obtain ⟨ji20, hji20⟩ : ∃ j_ : Int, (wrap64 (x7_1 + 2)) = j_ := ⟨_, rfl⟩
                            replace H : (if 0 ≤ (ji20) then (if (ji20) < (a0.size : Int) then (if (bt a0 (ji20)) = 125 then (idiomref01_Fill.j1 k1 a0 l1 x6_1 x7_1 (decide ((((bt a0 (ji14)) - 48) % 256) ≥ (l1.length : Int)))) else (idiomref01_Fill.j1 k1 a0 l1 x6_1 x7_1 true)) else (none)) else (none)) = some (r1, r2) := by first | (rw [hji20] at H; exact H) | (simp only [hji20] at H ⊢; exact H)
                            (try rw [hji20] at c13b0)
                            (try rw [hji20] at A18)
                            have hji20w : (IntKind.i64.wrap (x7_1 + 2)) = ji20 := (i64_w _).trans hji20
                            by_cases c21 : 0 ≤ (ji20)
                            · rw [if_pos c21] at H
                              have c21b0 : decide (0 ≤ (ji20)) = true := decide_eq_true c21
                              clear c21
                              by_cases c22 : (ji20) < (a0.size : Int)
                              · rw [if_pos c22] at H
                                have c22b0 : decide ((ji20) < (a0.size : Int)) = true := decide_eq_true c22
                                clear c22
                                by_cases c24 : (bt a0 (ji20)) = 125
                                · rw [if_pos c24] at H
                                  have c24b0 : ((bt a0 (ji20)) == 125) = true := beq_iff_eq.mpr c24
                                  have c24b1 : ((bt a0 (ji20)) != 125) = false := bne_eq_false_iff_eq.mpr c24
                                  clear c24
                                  have H' := Aside0.mk H
                                  clear H
                                  have p17 : 0 ≤ ((ji14) : Int) := of_decide_eq_true (by first | (with_reducible assumption) | assumption)
                                  have q17 : (ji14) < (a0.size : Int) := of_decide_eq_true (by first | (with_reducible assumption) | assumption)
                                  have hx17 := bt_at a0 (ji14)
                                  replace p17 := eq_true p17
                                  replace q17 := eq_true q17
                                  go_wp2_with (first | (go_at_call 29; (with_reducible refine (idiomref01_Digit.calls (bt a0 (ji14)) true _ A18.out).mono ?_); rintro e w' ⟨rfl, ⟨nd, rfl⟩⟩; have p23 : 0 ≤ ((ji20) : Int) := of_decide_eq_true (by first | (with_reducible assumption) | assumption); have q23 : (ji20) < (a0.size : Int) := of_decide_eq_true (by first | (with_reducible assumption) | assumption); have hx23 := bt_at a0 (ji20); replace p23 := eq_true p23; replace q23 := eq_true q23; have p25 : 0 ≤ ((ji14) : Int) := of_decide_eq_true (by first | (with_reducible assumption) | assumption); have q25 : (ji14) < (a0.size : Int) := of_decide_eq_true (by first | (with_reducible assumption) | assumption); have hx25 := bt_at a0 (ji14); replace p25 := eq_true p25; replace q25 := eq_true q25))
                                  (try clear hji14w)
                                  (try subst hji14)
                                  (try clear hji20w)
                                  (try subst hji20)
                                  go_meet
                                  case rel => exact ⟨_, (decide ((((bt a0 ((wrap64 (x7_1 + 1)))) - 48) % 256) ≥ (l1.length : Int))), (by first | rfl | (simp; done) | (simp only [← hji14] <;> (first | rfl | simp)) | (simp [*]; done)), H', ⟨by have := HK1.out; first | omega | exact Nat.le_refl _⟩, ⟨by (with_reducible repeat (first | apply Kd.R_alloc | apply Kd.R_drewN | apply Kd.R_drew)); exact HO_6.out⟩, ⟨by repeat (first | (with_reducible first | exact HB.out | apply below_alloc | apply pw_below_drewN | apply below_drew1) | exact HB.out)⟩⟩
                                · rw [if_neg c24] at H
                                  have c24b0 : ((bt a0 (ji20)) == 125) = false := beq_eq_false_iff_ne.mpr c24
                                  have c24b1 : ((bt a0 (ji20)) != 125) = true := bne_iff_ne.mpr c24
                                  have H' := Aside0.mk H
                                  clear H
                                  have p17 : 0 ≤ ((ji14) : Int) := of_decide_eq_true (by first | (with_reducible assumption) | assumption)
                                  have q17 : (ji14) < (a0.size : Int) := of_decide_eq_true (by first | (with_reducible assumption) | assumption)
                                  have hx17 := bt_at a0 (ji14)
                                  replace p17 := eq_true p17
                                  replace q17 := eq_true q17
                                  go_wp2_with (first | (go_at_call 29; (with_reducible refine (idiomref01_Digit.calls (bt a0 (ji14)) true _ A18.out).mono ?_); rintro e w' ⟨rfl, ⟨nd, rfl⟩⟩; have p23 : 0 ≤ ((ji20) : Int) := of_decide_eq_true (by first | (with_reducible assumption) | assumption); have q23 : (ji20) < (a0.size : Int) := of_decide_eq_true (by first | (with_reducible assumption) | assumption); have hx23 := bt_at a0 (ji20); replace p23 := eq_true p23; replace q23 := eq_true q23))
                                  (try clear hji14w)
                                  (try subst hji14)
                                  (try clear hji20w)
                                  (try subst hji20)
                                  go_meet
                                  case rel => exact ⟨_, (true), (by first | rfl | (simp; done) | (simp [*]; done)), H', ⟨by have := HK1.out; first | omega | exact Nat.le_refl _⟩, ⟨by (with_reducible repeat (first | apply Kd.R_alloc | apply Kd.R_drewN | apply Kd.R_drew)); exact HO_6.out⟩, ⟨by repeat (first | (with_reducible first | exact HB.out | apply below_alloc | apply pw_below_drewN | apply below_drew1) | exact HB.out)⟩⟩
                              · rw [if_neg c22] at H
                                exact absurd H (by simp)
                            · rw [if_neg c21] at H
                              exact absurd H (by simp)
                          · replace c19 := Bool.eq_false_iff.mpr c19
                            subst c19
                            have H1 : (idiomref01_Fill.j1 k1 a0 l1 x6_1 x7_1 true) = some (r1, r2) := by rw [if_neg (show ¬ (false = true) by decide)] at H; exact H
                            clear H
                            have H := H1
                            clear H1
                            have H' := Aside0.mk H
                            clear H
                            have p17 : 0 ≤ ((ji14) : Int) := of_decide_eq_true (by first | (with_reducible assumption) | assumption)
                            have q17 : (ji14) < (a0.size : Int) := of_decide_eq_true (by first | (with_reducible assumption) | assumption)
                            have hx17 := bt_at a0 (ji14)
                            replace p17 := eq_true p17
                            replace q17 := eq_true q17
                            go_wp2_with (first | (go_at_call 29; (with_reducible refine (idiomref01_Digit.calls (bt a0 (ji14)) false _ A18.out).mono ?_); rintro e w' ⟨rfl, ⟨nd, rfl⟩⟩))
                            (try clear hji14w)
                            (try subst hji14)
                            (try clear hji20w)
                            (try subst hji20)
                            go_meet
                            case rel => exact ⟨_, (true), (by first | rfl | (simp; done) | (simp [*]; done)), H', ⟨by have := HK1.out; first | omega | exact Nat.le_refl _⟩, ⟨by (with_reducible repeat (first | apply Kd.R_alloc | apply Kd.R_drewN | apply Kd.R_drew)); exact HO_6.out⟩, ⟨by repeat (first | (with_reducible first | exact HB.out | apply below_alloc | apply pw_below_drewN | apply below_drew1) | exact HB.out)⟩⟩
                        · rw [if_neg c16] at H
                          exact absurd H (by simp)
                      · rw [if_neg c15] at H
                        exact absurd H (by simp)
                  case rest =>
                    clear HC12
                    try clear c1
                    try clear p1
                    try clear q1
                    try clear hx1
                    try clear c2
                    try clear p2
                    try clear q2
                    try clear hx2
                    try clear c3
                    try clear c3b0
                    try clear c3b1
                    try clear c6
                    try clear c6b0
                    try clear p6
                    try clear c7
                    try clear c7b0
                    try clear c7b1
                    try clear c8
                    try clear c8b0
                    try clear c8b1
                    try clear c9
                    try clear c9b0
                    try clear c9b1
                    try clear p10
                    try clear q10
                    try clear hx10
                    try clear c11
                    try clear c11b0
                    try clear c11b1
                    try clear c13
                    try clear c13b0
                    try clear c15
                    try clear c15b0
                    try clear c16
                    try clear c16b0
                    try clear p17
                    try clear q17
                    try clear hx17
                    try clear c19
                    try clear c21
                    try clear c21b0
                    try clear c22
                    try clear c22b0
                    try clear p23
                    try clear q23
                    try clear hx23
                    try clear c24
                    try clear c24b0
                    try clear c24b1
                    try clear p25
                    try clear q25
                    try clear hx25
                    try clear p10
                    try clear p17
                    try clear p2
                    try clear p23
                    try clear p25
                    try clear q10
                    try clear q17
                    try clear q23
                    try clear q25
                    obtain ⟨kq, x57_11, rfl, HA, HJ11, HO_6, HB⟩ := hcut
                    cases kq with
                    | zero => exact absurd HA.out (by simp [idiomref01_Fill.j1])
                    | succ kj11 =>
                      have H := HA.out
                      clear HA
                      simp only [idiomref01_Fill.j1] at H
                      by_cases c26 : x57_11 = true
                      · subst c26
                        have H1 : (some ((⟨#[]⟩ : ByteArray), 11)) = some (r1, r2) := by rw [if_pos rfl] at H; exact H
                        clear H
                        have H := H1
                        clear H1
                        simp only [Option.some.injEq, Prod.mk.injEq] at H
                        obtain ⟨rfl, rfl⟩ := H
                        go_wp2
                        go_ret2
                        exact ⟨by first | rfl | (simp [errW_none, errW_some] <;> rfl) | (simp [*, errW_none, errW_some] <;> rfl), by repeat (first | (with_reducible first | exact HB.out | apply below_alloc | apply pw_below_drewN | apply below_drew1) | exact HB.out)⟩
                      · replace c26 := Bool.eq_false_iff.mpr c26
                        subst c26
                        have H1 : (if 0 ≤ (wrap64 (x7_1 + 1)) then (if (wrap64 (x7_1 + 1)) < (a0.size : Int) then (if 0 ≤ (((bt a0 (wrap64 (x7_1 + 1))) - 48) % 256) then (if (((bt a0 (wrap64 (x7_1 + 1))) - 48) % 256) < (l1.length : Int) then (if ((rdOf ByteArray.empty l1 (((bt a0 (wrap64 (x7_1 + 1))) - 48) % 256)).size : Int) > (wrap64 (1048576 - (x6_1.length : Int))) then (some ((⟨#[]⟩ : ByteArray), 2)) else (if x6_1.length + (rdOf ByteArray.empty l1 (((bt a0 (wrap64 (x7_1 + 1))) - 48) % 256)).size < 140737488355328 then (idiomref01_Fill.l0 kj11 a0 l1 (x6_1 ++ bytesOf (rdOf ByteArray.empty l1 (((bt a0 (wrap64 (x7_1 + 1))) - 48) % 256))) (wrap64 (x7_1 + 3))) else (none))) else (none)) else (none)) else (none)) else (none)) = some (r1, r2) := by rw [if_neg (show ¬ (false = true) by decide)] at H; exact H
                        clear H
                        have H := H1
                        clear H1
                        obtain ⟨ji27, hji27⟩ : ∃ j_ : Int, (wrap64 (x7_1 + 1)) = j_ := ⟨_, rfl⟩
                        replace H : (if 0 ≤ (ji27) then (if (ji27) < (a0.size : Int) then (if 0 ≤ (((bt a0 (ji27)) - 48) % 256) then (if (((bt a0 (ji27)) - 48) % 256) < (l1.length : Int) then (if ((rdOf ByteArray.empty l1 (((bt a0 (ji27)) - 48) % 256)).size : Int) > (wrap64 (1048576 - (x6_1.length : Int))) then (some ((⟨#[]⟩ : ByteArray), 2)) else (if x6_1.length + (rdOf ByteArray.empty l1 (((bt a0 (ji27)) - 48) % 256)).size < 140737488355328 then (idiomref01_Fill.l0 kj11 a0 l1 (x6_1 ++ bytesOf (rdOf ByteArray.empty l1 (((bt a0 (ji27)) - 48) % 256))) (wrap64 (x7_1 + 3))) else (none))) else (none)) else (none)) else (none)) else (none)) = some (r1, r2) := by first | (rw [hji27] at H; exact H) | (simp only [hji27] at H ⊢; exact H)
                        (try rw [hji27] at c8b0)
                        (try rw [hji27] at c8b1)
                        (try rw [hji27] at c8)
                        (try rw [hji27] at c9b0)
                        (try rw [hji27] at c9b1)
                        (try rw [hji27] at c9)
                        have hji27w : (IntKind.i64.wrap (x7_1 + 1)) = ji27 := (i64_w _).trans hji27
                        by_cases c28 : 0 ≤ (ji27)
                        · rw [if_pos c28] at H
                          have c28b0 : decide (0 ≤ (ji27)) = true := decide_eq_true c28
                          clear c28
                          by_cases c29 : (ji27) < (a0.size : Int)
                          · rw [if_pos c29] at H
                            have c29b0 : decide ((ji27) < (a0.size : Int)) = true := decide_eq_true c29
                            clear c29
                            obtain ⟨ji31, hji31⟩ : ∃ j_ : Int, (((bt a0 (ji27)) - 48) % 256) = j_ := ⟨_, rfl⟩
                            replace H : (if 0 ≤ (ji31) then (if (ji31) < (l1.length : Int) then (if ((rdOf ByteArray.empty l1 (ji31)).size : Int) > (wrap64 (1048576 - (x6_1.length : Int))) then (some ((⟨#[]⟩ : ByteArray), 2)) else (if x6_1.length + (rdOf ByteArray.empty l1 (ji31)).size < 140737488355328 then (idiomref01_Fill.l0 kj11 a0 l1 (x6_1 ++ bytesOf (rdOf ByteArray.empty l1 (ji31))) (wrap64 (x7_1 + 3))) else (none))) else (none)) else (none)) = some (r1, r2) := by first | (rw [hji31] at H; exact H) | (simp only [hji31] at H ⊢; exact H)
                            by_cases c32 : 0 ≤ (ji31)
                            · rw [if_pos c32] at H
                              have c32b0 : decide (0 ≤ (ji31)) = true := decide_eq_true c32
                              clear c32
                              by_cases c33 : (ji31) < (l1.length : Int)
                              · rw [if_pos c33] at H
                                have c33b0 : decide ((ji31) < (l1.length : Int)) = true := decide_eq_true c33
                                clear c33
                                by_cases c34 : ((rdOf ByteArray.empty l1 (ji31)).size : Int) > (wrap64 (1048576 - (x6_1.length : Int)))
                                · rw [if_pos c34] at H
                                  have c34b0 : decide ((wrap64 (1048576 - (x6_1.length : Int))) < ((rdOf ByteArray.empty l1 (ji31)).size : Int)) = true := decide_eq_true c34
                                  clear c34
                                  simp only [Option.some.injEq, Prod.mk.injEq] at H
                                  obtain ⟨rfl, rfl⟩ := H
                                  have p30 : 0 ≤ ((ji27) : Int) := of_decide_eq_true (by first | (with_reducible assumption) | assumption)
                                  have q30 : (ji27) < (a0.size : Int) := of_decide_eq_true (by first | (with_reducible assumption) | assumption)
                                  have hx30 := bt_at a0 (ji27)
                                  replace p30 := eq_true p30
                                  replace q30 := eq_true q30
                                  have p161 : 0 ≤ ((ji31) : Int) := of_decide_eq_true (by first | (with_reducible assumption) | assumption)
                                  have q161 : (ji31) < (l1.length : Int) := of_decide_eq_true (by first | (with_reducible assumption) | assumption)
                                  obtain ⟨ad161, e161, hx161_0⟩ := Kd.at_string HR1.out (ji31) p161 q161
                                  cases e161
                                  replace hx161_0 := (HB.out.cell (World.block_lt_of_cell? w _ hx161_0)).trans hx161_0
                                  replace p161 := eq_true p161
                                  replace q161 := eq_true q161
                                  obtain ⟨Ao35, co35, eo35⟩ := Kd.R_slice HO_6.out
                                  subst eo35
                                  go_wp2
                                  go_ret2
                                  exact ⟨by first | rfl | (simp [errW_none, errW_some] <;> rfl) | (simp only [← hji27, ← hji31]; first | rfl | (simp [errW_none, errW_some] <;> rfl)) | (simp [*, errW_none, errW_some] <;> rfl), by repeat (first | (with_reducible first | exact HB.out | apply below_alloc | apply pw_below_drewN | apply below_drew1) | exact HB.out)⟩
                                · rw [if_neg c34] at H
                                  have c34b0 : decide ((wrap64 (1048576 - (x6_1.length : Int))) < ((rdOf ByteArray.empty l1 (ji31)).size : Int)) = false := decide_eq_false c34
                                  clear c34
                                  by_cases c36 : x6_1.length + (rdOf ByteArray.empty l1 (ji31)).size < 140737488355328
                                  · rw [if_pos c36] at H
                                    have LMc36 := Aside0.mk c36
                                    clear c36
                                    obtain ⟨y162, hy162⟩ : ∃ y_ : List Int, y_ = (x6_1 ++ bytesOf (rdOf ByteArray.empty l1 (ji31))) := ⟨_, rfl⟩
                                    replace H : (idiomref01_Fill.l0 kj11 a0 l1 y162 (wrap64 (x7_1 + 3))) = some (r1, r2) := by first | (rw [hy162]; with_reducible exact H) | (have H2_ := (Option.bind_some _ _).symm.trans H; rw [hy162]; with_reducible exact H2_) | (have H2_ := (Option.bind_some _ _).symm.trans H; with_reducible exact H2_) | with_reducible exact H | (rw [hy162]; exact H) | exact H
                                    have Ny162 := Aside0.mk hy162
                                    clear hy162
                                    have H' := Aside0.mk H
                                    clear H
                                    have p30 : 0 ≤ ((ji27) : Int) := of_decide_eq_true (by first | (with_reducible assumption) | assumption)
                                    have q30 : (ji27) < (a0.size : Int) := of_decide_eq_true (by first | (with_reducible assumption) | assumption)
                                    have hx30 := bt_at a0 (ji27)
                                    replace p30 := eq_true p30
                                    replace q30 := eq_true q30
                                    have p161 : 0 ≤ ((ji31) : Int) := of_decide_eq_true (by first | (with_reducible assumption) | assumption)
                                    have q161 : (ji31) < (l1.length : Int) := of_decide_eq_true (by first | (with_reducible assumption) | assumption)
                                    obtain ⟨ad161, e161, hx161_0⟩ := Kd.at_string HR1.out (ji31) p161 q161
                                    cases e161
                                    replace hx161_0 := (HB.out.cell (World.block_lt_of_cell? w _ hx161_0)).trans hx161_0
                                    replace p161 := eq_true p161
                                    replace q161 := eq_true q161
                                    obtain ⟨Ao37, co37, eo37⟩ := Kd.R_slice HO_6.out
                                    subst eo37
                                    go_wp2_with (first | (at_builtin; refine print_append_str (w0 := w) w.heap.size rfl (.tmp 73) _ 44 9 5 rfl Try.underlying44 Try.underlying9 info5 (.slice Ao37 x6_1.length co37) x6_1 (rdOf ByteArray.empty l1 (ji31)) rfl rfl ?aO ?aB ?aS ?aL ?_; (case aB => exact (by repeat (first | (with_reducible first | exact HB.out | apply below_alloc | apply pw_below_drewN | apply below_drew1) | exact HB.out))); (case aO => exact (Kd.own_of_R (by (with_reducible repeat (first | apply Kd.R_alloc | apply Kd.R_drewN | apply Kd.R_drew)); exact HO_6.out))); (case aS => exact (below_size (by repeat (first | (with_reducible first | exact HB.out | apply below_alloc | apply pw_below_drewN | apply below_drew1) | exact HB.out)))); (case aL => have := LMc36.out; omega); intro v163 w38 ho0 hb hg; have ho := Kd.R_of_own (h1 := fun _ => rfl) (ok := fun _ => True) ho0 (fun _ _ => trivial); clear ho0; have hat := True.intro; rw [← Ny162.out] at ho; change Kd.R (Kd.int .u8) 5 w38 w.heap.size (fun _ => True) v163 y162 at ho; have n0_ := Aside0.mk (hb); have n1_ := Aside0.mk (ho); clear HB; clear HO_6; have HB := n0_; have HO164 := n1_; clear n0_ n1_; clear ho hb hg hat))
                                    go_roundg kj11
                                    case measure => have := HK1.out; have := HJ11.out; omega
                                    case rel => exact ⟨(y162), (wrap64 (x7_1 + 3)), (by first | rfl | (simp; done) | (simp [*]; done)), H', ⟨by have := HK1.out; have := HJ11.out; omega⟩, ⟨by (with_reducible repeat (first | apply Kd.R_alloc | apply Kd.R_drewN | apply Kd.R_drew)); exact HO164.out⟩, ⟨by repeat (first | (with_reducible first | exact HB.out | apply below_alloc | apply pw_below_drewN | apply below_drew1) | exact HB.out)⟩⟩
                                  · rw [if_neg c36] at H
                                    exact absurd H (by simp)
                              · rw [if_neg c33] at H
                                exact absurd H (by simp)
                            · rw [if_neg c32] at H
                              exact absurd H (by simp)
                          · rw [if_neg c29] at H
                            exact absurd H (by simp)
                        · rw [if_neg c28] at H
                          exact absurd H (by simp)
                · rw [if_neg c11] at H
                  have c11b0 : ((bt a0 x7_1) == 123) = false := beq_eq_false_iff_ne.mpr c11
                  have c11b1 : ((bt a0 x7_1) != 123) = true := bne_iff_ne.mpr c11
                  by_cases c39 : ((a0.extract (x7_1 : Int).toNat ((wrap64 (x7_1 + 1)) : Int).toNat).size : Int) > (wrap64 (1048576 - (x6_1.length : Int)))
                  · rw [if_pos c39] at H
                    have c39b0 : decide ((wrap64 (1048576 - (x6_1.length : Int))) < ((a0.extract (x7_1 : Int).toNat ((wrap64 (x7_1 + 1)) : Int).toNat).size : Int)) = true := decide_eq_true c39
                    have hse_ : (a0.extract (x7_1 : Int).toNat ((wrap64 (x7_1 + 1)) : Int).toNat).size = (wrap64 (x7_1 + 1)).toNat - x7_1.toNat := by rw [ByteArray.size_extract]; omega
                    have c39b1 := c39b0
                    rw [hse_] at c39b1
                    clear hse_
                    clear c39
                    simp only [Option.some.injEq, Prod.mk.injEq] at H
                    obtain ⟨rfl, rfl⟩ := H
                    have p10 : 0 ≤ (x7_1 : Int) := of_decide_eq_true (by first | (with_reducible assumption) | assumption)
                    have q10 : x7_1 < (a0.size : Int) := of_decide_eq_true (by first | (with_reducible assumption) | assumption)
                    have hx10 := bt_at a0 x7_1
                    replace p10 := eq_true p10
                    replace q10 := eq_true q10
                    obtain ⟨Ao40, co40, eo40⟩ := Kd.R_slice HO_6.out
                    subst eo40
                    go_wp2
                    go_ret2
                    exact ⟨by first | rfl | (simp [errW_none, errW_some] <;> rfl) | (simp [*, errW_none, errW_some] <;> rfl), by repeat (first | (with_reducible first | exact HB.out | apply below_alloc | apply pw_below_drewN | apply below_drew1) | exact HB.out)⟩
                  · rw [if_neg c39] at H
                    have c39b0 : decide ((wrap64 (1048576 - (x6_1.length : Int))) < ((a0.extract (x7_1 : Int).toNat ((wrap64 (x7_1 + 1)) : Int).toNat).size : Int)) = false := decide_eq_false c39
                    have hse_ : (a0.extract (x7_1 : Int).toNat ((wrap64 (x7_1 + 1)) : Int).toNat).size = (wrap64 (x7_1 + 1)).toNat - x7_1.toNat := by rw [ByteArray.size_extract]; omega
                    have c39b1 := c39b0
                    rw [hse_] at c39b1
                    clear hse_
                    clear c39
                    by_cases c41 : x6_1.length + (a0.extract (x7_1 : Int).toNat ((wrap64 (x7_1 + 1)) : Int).toNat).size < 140737488355328
                    · rw [if_pos c41] at H
                      have LMc41 := Aside0.mk c41
                      clear c41
                      obtain ⟨y165, hy165⟩ : ∃ y_ : List Int, y_ = (x6_1 ++ bytesOf (a0.extract (x7_1 : Int).toNat ((wrap64 (x7_1 + 1)) : Int).toNat)) := ⟨_, rfl⟩
                      replace H : (idiomref01_Fill.l0 k1 a0 l1 y165 (wrap64 (x7_1 + 1))) = some (r1, r2) := by first | (rw [hy165]; with_reducible exact H) | (have H2_ := (Option.bind_some _ _).symm.trans H; rw [hy165]; with_reducible exact H2_) | (have H2_ := (Option.bind_some _ _).symm.trans H; with_reducible exact H2_) | with_reducible exact H | (rw [hy165]; exact H) | exact H
                      have Ny165 := Aside0.mk hy165
                      clear hy165
                      have H' := Aside0.mk H
                      clear H
                      have p10 : 0 ≤ (x7_1 : Int) := of_decide_eq_true (by first | (with_reducible assumption) | assumption)
                      have q10 : x7_1 < (a0.size : Int) := of_decide_eq_true (by first | (with_reducible assumption) | assumption)
                      have hx10 := bt_at a0 x7_1
                      replace p10 := eq_true p10
                      replace q10 := eq_true q10
                      obtain ⟨Ao42, co42, eo42⟩ := Kd.R_slice HO_6.out
                      subst eo42
                      go_wp2_with (first | (at_builtin; refine print_append_str (w0 := w) w.heap.size rfl (.tmp 73) _ 44 9 5 rfl Try.underlying44 Try.underlying9 info5 (.slice Ao42 x6_1.length co42) x6_1 (a0.extract (x7_1 : Int).toNat ((wrap64 (x7_1 + 1)) : Int).toNat) rfl rfl ?aO ?aB ?aS ?aL ?_; (case aB => exact (by repeat (first | (with_reducible first | exact HB.out | apply below_alloc | apply pw_below_drewN | apply below_drew1) | exact HB.out))); (case aO => exact (Kd.own_of_R (by (with_reducible repeat (first | apply Kd.R_alloc | apply Kd.R_drewN | apply Kd.R_drew)); exact HO_6.out))); (case aS => exact (below_size (by repeat (first | (with_reducible first | exact HB.out | apply below_alloc | apply pw_below_drewN | apply below_drew1) | exact HB.out)))); (case aL => have := LMc41.out; omega); intro v166 w43 ho0 hb hg; have ho := Kd.R_of_own (h1 := fun _ => rfl) (ok := fun _ => True) ho0 (fun _ _ => trivial); clear ho0; have hat := True.intro; rw [← Ny165.out] at ho; change Kd.R (Kd.int .u8) 5 w43 w.heap.size (fun _ => True) v166 y165 at ho; have n0_ := Aside0.mk (hb); have n1_ := Aside0.mk (ho); clear HB; clear HO_6; have HB := n0_; have HO167 := n1_; clear n0_ n1_; clear ho hb hg hat))
                      go_roundg k1
                      case measure => have := HK1.out; omega
                      case rel => exact ⟨(y165), (wrap64 (x7_1 + 1)), (by first | rfl | (simp; done) | (simp [*]; done)), H', ⟨by have := HK1.out; omega⟩, ⟨by (with_reducible repeat (first | apply Kd.R_alloc | apply Kd.R_drewN | apply Kd.R_drew)); exact HO167.out⟩, ⟨by repeat (first | (with_reducible first | exact HB.out | apply below_alloc | apply pw_below_drewN | apply below_drew1) | exact HB.out)⟩⟩
                    · rw [if_neg c41] at H
                      exact absurd H (by simp)
              · rw [if_neg c9] at H
                exact absurd H (by simp)
            · rw [if_neg c8] at H
              exact absurd H (by simp)
          · rw [if_neg c7] at H
            exact absurd H (by simp)
        · rw [if_neg c6] at H
          have c6b0 : decide (x7_1 < (a0.size : Int)) = false := decide_eq_false c6
          clear c6
          simp only [Option.some.injEq, Prod.mk.injEq] at H
          obtain ⟨rfl, rfl⟩ := H
          have hcv44 := own_string (P := Try.prog) Try.underlying44 Try.underlying5 Try.underlying9 (Kd.own_of_R HO_6.out)
          go_wp2
          go_ret2
          exact ⟨by first | rfl | (simp [errW_none, errW_some] <;> rfl) | (simp [*, errW_none, errW_some] <;> rfl), by repeat (first | (with_reducible first | exact HB.out | apply below_alloc | apply pw_below_drewN | apply below_drew1) | exact HB.out)⟩


end Go.Proofs.Ytalojokihccboaa.PLists
