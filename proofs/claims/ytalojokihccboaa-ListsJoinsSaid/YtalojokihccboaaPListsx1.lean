/- Printed by a program (the kit's print.py with changes of this session) out of Lean's own print of the program: functions of the program as plain Lean functions, and that each call comes to what they say; conditions: those that each theorem states. Not trusted: Lean checks it. -/
import Derived.Test.YtalojokihccboaaPListsx0
namespace Go.Proofs.Ytalojokihccboaa.PLists
open Go.RowKit Go.Proofs.YtalojokihccboaaW.PrintWords Go.Proofs.YtalojokihccboaaW.PrintLast Go.Proofs.YtalojokihccboaaW.PrintMore
attribute [local go_sem] max2_int min2_int max_two min_two max_three min_three max_four min_four   -- for this text's walks alone
set_option linter.unusedVariables false
set_option linter.unusedSimpArgs false

attribute [local go_sem] setCell_drewN_ cell_put_twice_
/-! ### what the library's functions come to: by hand, over the shelf's contracts -/
/-- The library's variable bytealg.MaxLen (variable 0) holds some number. -/
def Tbl (w : World) : Prop := ∃ m : Int, w.cell? ⟨0, 0, none⟩ = some (.int .i64 m)
theorem Tbl.below {w w' : World} (h : Tbl w) (hb : Below w.heap.size w w') : Tbl w' := by
  obtain ⟨m, hm⟩ := h
  exact ⟨m, (hb.cell (p := ⟨0, 0, none⟩) (World.block_lt_of_cell? w _ hm)).trans hm⟩
theorem Tbl.drewN {w : World} (h : Tbl w) (n : Nat) : Tbl (w.drewN n) := h
theorem Tbl.drew {w : World} (h : Tbl w) : Tbl w.drew := h

def strings_Index.f (a0 a1 : ByteArray) : Option Int := if a0.size < 4294967281 then some (Lib.index a0.data.toList a1.data.toList) else none
theorem strings_Index.calls (a0 a1 : ByteArray) (r : Int) (w : World) (hT : Tbl w) (h : strings_Index.f a0 a1 = some r) :
    Calls Try.prog 22 #[.string a0, .string a1] w fun e w' => e = .returned (.int .i64 r) ∧ Drawn0 w w' := by
  unfold strings_Index.f at h
  obtain ⟨m, hm⟩ := hT
  by_cases hs : a0.size < 4294967281
  · rw [if_pos hs] at h
    obtain rfl := Option.some.inj h
    exact (Try.strings_Index a0 a1 m w hs hm).mono (by rintro e w' ⟨rfl, rfl⟩; exact ⟨rfl, Drawn0.refl _⟩)
  · rw [if_neg hs] at h; cases h


def strings_Count.f (a0 a1 : ByteArray) : Option Int := if a1.size = 1 then some (Lib.countByte a0.data.toList (a1.data.getD 0 0)) else none
theorem strings_Count.calls (a0 a1 : ByteArray) (r : Int) (w : World) (hT : Tbl w) (h : strings_Count.f a0 a1 = some r) :
    Calls Try.prog 23 #[.string a0, .string a1] w fun e w' => e = .returned (.int .i64 r) ∧ Drawn0 w w' := by
  unfold strings_Count.f at h
  by_cases hs : a1.size = 1
  · rw [if_pos hs] at h
    obtain rfl := Option.some.inj h
    obtain ⟨⟨l⟩⟩ := a1
    match l, hs with
    | [c], _ => exact (Try.strings_Count_one a0 c w).mono (by rintro e w' ⟨rfl, rfl⟩; exact ⟨rfl, Drawn0.refl _⟩)
  · rw [if_neg hs] at h; cases h

/-! ### lists_checkPattern: function 16 -/
def lists_checkPattern.f (a0 : ByteArray) : Option (Int) := if (a0.size : Int) > 65536 then (some 2) else ((strings_Index.f a0 (⟨#[123, 48, 125]⟩ : ByteArray)).bind fun t101 => ((strings_Index.f a0 (⟨#[123, 49, 125]⟩ : ByteArray)).bind fun t102 => (if t101 < 0 then (some 130) else (if t102 < t101 then (some 130) else ((strings_Count.f a0 (⟨#[123]⟩ : ByteArray)).bind fun t103 => (if t103 = 2 then (some 0) else (some 130)))))))
set_option maxHeartbeats 8000000 in
set_option maxRecDepth 100000 in
theorem lists_checkPattern.calls (a0 : ByteArray) (r : Int) (w : World) (hT : Tbl w) (h : lists_checkPattern.f a0 = some r) :
    Calls Try.prog 16 #[.string a0] w fun e w' => e = .returned (.int .i64 r) ∧ Drawn0 w w' := by
  have HT := Aside0.mk hT
  clear hT
  have H : (if (a0.size : Int) > 65536 then (some 2) else ((strings_Index.f a0 (⟨#[123, 48, 125]⟩ : ByteArray)).bind fun t101 => ((strings_Index.f a0 (⟨#[123, 49, 125]⟩ : ByteArray)).bind fun t102 => (if t101 < 0 then (some 130) else (if t102 < t101 then (some 130) else ((strings_Count.f a0 (⟨#[123]⟩ : ByteArray)).bind fun t103 => (if t103 = 2 then (some 0) else (some 130)))))))) = some r := h
  clear h
  by_cases c2 : (a0.size : Int) > 65536
  · rw [if_pos c2] at H
    have c2b0 : decide (65536 < (a0.size : Int)) = true := decide_eq_true c2
    have c2b1 : decide (65536 < a0.size) = true := decide_eq_true (by omega)
    clear c2
    obtain rfl := Option.some.inj H
    go_enter Try.func16, Try.ntmps16
    go_wp2
    go_ret
    exact ⟨by first | rfl | (simp; done) | (simp [*]; done), by repeat (first | exact Drawn0.refl _ | apply Drawn0.step)⟩
  · rw [if_neg c2] at H
    have c2b0 : decide (65536 < (a0.size : Int)) = false := decide_eq_false c2
    have c2b1 : decide (65536 < a0.size) = false := decide_eq_false (by omega)
    clear c2
    replace H := Option.bind_eq_some_iff.mp H
    obtain ⟨t101, A30, H⟩ := H
    replace H : ((strings_Index.f a0 (⟨#[123, 49, 125]⟩ : ByteArray)).bind fun t102 => (if t101 < 0 then (some 130) else (if t102 < t101 then (some 130) else ((strings_Count.f a0 (⟨#[123]⟩ : ByteArray)).bind fun t103 => (if t103 = 2 then (some 0) else (some 130)))))) = some r := H
    have A3 := Aside0.mk A30
    clear A30
    replace H := Option.bind_eq_some_iff.mp H
    obtain ⟨t102, A40, H⟩ := H
    replace H : (if t101 < 0 then (some 130) else (if t102 < t101 then (some 130) else ((strings_Count.f a0 (⟨#[123]⟩ : ByteArray)).bind fun t103 => (if t103 = 2 then (some 0) else (some 130))))) = some r := H
    have A4 := Aside0.mk A40
    clear A40
    by_cases c5 : t101 < 0
    · rw [if_pos c5] at H
      have c5b0 : decide (t101 < 0) = true := decide_eq_true c5
      clear c5
      obtain rfl := Option.some.inj H
      go_enter Try.func16, Try.ntmps16
      go_wp2_with (first | ((with_reducible refine gate_callee (f := 22) rfl ?_); refine goesL_ (some 9) rfl rfl Try.func22 (by kernel_rfl) rfl #[.string a0, .string (⟨#[123, 48, 125]⟩ : ByteArray)] rfl (by (try simp only [List.map_toArray, List.map_cons, List.map_nil]); first | done | rfl | (simp only [List.length_drop, List.length_take]; rfl)) ?_; (with_reducible refine (strings_Index.calls a0 (⟨#[123, 48, 125]⟩ : ByteArray) t101 _ (by (with_reducible repeat (first | refine Tbl.drewN ?_ _ | refine Tbl.drew ?_)); exact HT.out) A3.out).mono ?_); rintro e w' ⟨rfl, ⟨nd, rfl⟩⟩; refine ⟨_, rfl, ?_⟩) | ((with_reducible refine gate_callee (f := 22) rfl ?_); refine goesL_ (some 11) rfl rfl Try.func22 (by kernel_rfl) rfl #[.string a0, .string (⟨#[123, 49, 125]⟩ : ByteArray)] rfl (by (try simp only [List.map_toArray, List.map_cons, List.map_nil]); first | done | rfl | (simp only [List.length_drop, List.length_take]; rfl)) ?_; (with_reducible refine (strings_Index.calls a0 (⟨#[123, 49, 125]⟩ : ByteArray) t102 _ (by (with_reducible repeat (first | refine Tbl.drewN ?_ _ | refine Tbl.drew ?_)); exact HT.out) A4.out).mono ?_); rintro e w' ⟨rfl, ⟨nd, rfl⟩⟩; refine ⟨_, rfl, ?_⟩))
      go_ret
      exact ⟨by first | rfl | (simp; done) | (simp [*]; done), by repeat (first | exact Drawn0.refl _ | apply Drawn0.step)⟩
    · rw [if_neg c5] at H
      have c5b0 : decide (t101 < 0) = false := decide_eq_false c5
      clear c5
      by_cases c6 : t102 < t101
      · rw [if_pos c6] at H
        have c6b0 : decide (t102 < t101) = true := decide_eq_true c6
        clear c6
        obtain rfl := Option.some.inj H
        go_enter Try.func16, Try.ntmps16
        go_wp2_with (first | ((with_reducible refine gate_callee (f := 22) rfl ?_); refine goesL_ (some 9) rfl rfl Try.func22 (by kernel_rfl) rfl #[.string a0, .string (⟨#[123, 48, 125]⟩ : ByteArray)] rfl (by (try simp only [List.map_toArray, List.map_cons, List.map_nil]); first | done | rfl | (simp only [List.length_drop, List.length_take]; rfl)) ?_; (with_reducible refine (strings_Index.calls a0 (⟨#[123, 48, 125]⟩ : ByteArray) t101 _ (by (with_reducible repeat (first | refine Tbl.drewN ?_ _ | refine Tbl.drew ?_)); exact HT.out) A3.out).mono ?_); rintro e w' ⟨rfl, ⟨nd, rfl⟩⟩; refine ⟨_, rfl, ?_⟩) | ((with_reducible refine gate_callee (f := 22) rfl ?_); refine goesL_ (some 11) rfl rfl Try.func22 (by kernel_rfl) rfl #[.string a0, .string (⟨#[123, 49, 125]⟩ : ByteArray)] rfl (by (try simp only [List.map_toArray, List.map_cons, List.map_nil]); first | done | rfl | (simp only [List.length_drop, List.length_take]; rfl)) ?_; (with_reducible refine (strings_Index.calls a0 (⟨#[123, 49, 125]⟩ : ByteArray) t102 _ (by (with_reducible repeat (first | refine Tbl.drewN ?_ _ | refine Tbl.drew ?_)); exact HT.out) A4.out).mono ?_); rintro e w' ⟨rfl, ⟨nd, rfl⟩⟩; refine ⟨_, rfl, ?_⟩))
        go_ret
        exact ⟨by first | rfl | (simp; done) | (simp [*]; done), by repeat (first | exact Drawn0.refl _ | apply Drawn0.step)⟩
      · rw [if_neg c6] at H
        have c6b0 : decide (t102 < t101) = false := decide_eq_false c6
        clear c6
        replace H := Option.bind_eq_some_iff.mp H
        obtain ⟨t103, A70, H⟩ := H
        replace H : (if t103 = 2 then (some 0) else (some 130)) = some r := H
        have A7 := Aside0.mk A70
        clear A70
        by_cases c8 : t103 = 2
        · rw [if_pos c8] at H
          have c8b0 : (t103 == 2) = true := beq_iff_eq.mpr c8
          have c8b1 : (t103 != 2) = false := bne_eq_false_iff_eq.mpr c8
          clear c8
          obtain rfl := Option.some.inj H
          go_enter Try.func16, Try.ntmps16
          go_wp2_with (first | ((with_reducible refine gate_callee (f := 22) rfl ?_); refine goesL_ (some 9) rfl rfl Try.func22 (by kernel_rfl) rfl #[.string a0, .string (⟨#[123, 48, 125]⟩ : ByteArray)] rfl (by (try simp only [List.map_toArray, List.map_cons, List.map_nil]); first | done | rfl | (simp only [List.length_drop, List.length_take]; rfl)) ?_; (with_reducible refine (strings_Index.calls a0 (⟨#[123, 48, 125]⟩ : ByteArray) t101 _ (by (with_reducible repeat (first | refine Tbl.drewN ?_ _ | refine Tbl.drew ?_)); exact HT.out) A3.out).mono ?_); rintro e w' ⟨rfl, ⟨nd, rfl⟩⟩; refine ⟨_, rfl, ?_⟩) | ((with_reducible refine gate_callee (f := 22) rfl ?_); refine goesL_ (some 11) rfl rfl Try.func22 (by kernel_rfl) rfl #[.string a0, .string (⟨#[123, 49, 125]⟩ : ByteArray)] rfl (by (try simp only [List.map_toArray, List.map_cons, List.map_nil]); first | done | rfl | (simp only [List.length_drop, List.length_take]; rfl)) ?_; (with_reducible refine (strings_Index.calls a0 (⟨#[123, 49, 125]⟩ : ByteArray) t102 _ (by (with_reducible repeat (first | refine Tbl.drewN ?_ _ | refine Tbl.drew ?_)); exact HT.out) A4.out).mono ?_); rintro e w' ⟨rfl, ⟨nd, rfl⟩⟩; refine ⟨_, rfl, ?_⟩) | (go_at_call 23; (with_reducible refine (strings_Count.calls a0 (⟨#[123]⟩ : ByteArray) t103 _ (by (with_reducible repeat (first | refine Tbl.drewN ?_ _ | refine Tbl.drew ?_)); exact HT.out) A7.out).mono ?_); rintro e w' ⟨rfl, ⟨nd, rfl⟩⟩))
          go_ret
          exact ⟨by first | rfl | (simp; done) | (simp [*]; done), by repeat (first | exact Drawn0.refl _ | apply Drawn0.step)⟩
        · rw [if_neg c8] at H
          have c8b0 : (t103 == 2) = false := beq_eq_false_iff_ne.mpr c8
          have c8b1 : (t103 != 2) = true := bne_iff_ne.mpr c8
          obtain rfl := Option.some.inj H
          go_enter Try.func16, Try.ntmps16
          go_wp2_with (first | ((with_reducible refine gate_callee (f := 22) rfl ?_); refine goesL_ (some 9) rfl rfl Try.func22 (by kernel_rfl) rfl #[.string a0, .string (⟨#[123, 48, 125]⟩ : ByteArray)] rfl (by (try simp only [List.map_toArray, List.map_cons, List.map_nil]); first | done | rfl | (simp only [List.length_drop, List.length_take]; rfl)) ?_; (with_reducible refine (strings_Index.calls a0 (⟨#[123, 48, 125]⟩ : ByteArray) t101 _ (by (with_reducible repeat (first | refine Tbl.drewN ?_ _ | refine Tbl.drew ?_)); exact HT.out) A3.out).mono ?_); rintro e w' ⟨rfl, ⟨nd, rfl⟩⟩; refine ⟨_, rfl, ?_⟩) | ((with_reducible refine gate_callee (f := 22) rfl ?_); refine goesL_ (some 11) rfl rfl Try.func22 (by kernel_rfl) rfl #[.string a0, .string (⟨#[123, 49, 125]⟩ : ByteArray)] rfl (by (try simp only [List.map_toArray, List.map_cons, List.map_nil]); first | done | rfl | (simp only [List.length_drop, List.length_take]; rfl)) ?_; (with_reducible refine (strings_Index.calls a0 (⟨#[123, 49, 125]⟩ : ByteArray) t102 _ (by (with_reducible repeat (first | refine Tbl.drewN ?_ _ | refine Tbl.drew ?_)); exact HT.out) A4.out).mono ?_); rintro e w' ⟨rfl, ⟨nd, rfl⟩⟩; refine ⟨_, rfl, ?_⟩) | (go_at_call 23; (with_reducible refine (strings_Count.calls a0 (⟨#[123]⟩ : ByteArray) t103 _ (by (with_reducible repeat (first | refine Tbl.drewN ?_ _ | refine Tbl.drew ?_)); exact HT.out) A7.out).mono ?_); rintro e w' ⟨rfl, ⟨nd, rfl⟩⟩))
          go_ret
          exact ⟨by first | rfl | (simp; done) | (simp [*]; done), by repeat (first | exact Drawn0.refl _ | apply Drawn0.step)⟩

/-! ### lists_Check: function 8, by hand: it ranges over an array of its own -/
def lists_Check.f (a0_0 : ByteArray) (a0_1 : ByteArray) (a0_2 : ByteArray) (a0_3 : ByteArray) : Option Int :=
  (lists_checkPattern.f a0_0).bind fun t0 => if t0 = 0 then ((lists_checkPattern.f a0_1).bind fun t1 => if t1 = 0 then ((lists_checkPattern.f a0_2).bind fun t2 => if t2 = 0 then lists_checkPattern.f a0_3 else some t2) else some t1) else some t0
set_option maxHeartbeats 2000000 in
theorem lists_Check.calls (a0_0 : ByteArray) (a0_1 : ByteArray) (a0_2 : ByteArray) (a0_3 : ByteArray) (r : Int) (w : World) (hT : Tbl w) (h : lists_Check.f a0_0 a0_1 a0_2 a0_3 = some r) :
    Calls Try.prog 8 #[.agg #[.string a0_0, .string a0_1, .string a0_2, .string a0_3]] w fun e w' => e = .returned (.int .i64 r) ∧ Below w.heap.size w w' := by
  unfold lists_Check.f at h
  have hu23 := Try.underlying23
  have HT := Aside0.mk hT
  clear hT
  have i0 : ∀ w, (Instr.index 35 (.agg #[.string a0_0, .string a0_1, .string a0_2, .string a0_3]) (.int .i64 0)).run Try.prog w = .ok (.string a0_0) w := fun _ => by kernel_rfl
  have i1 : ∀ w, (Instr.index 35 (.agg #[.string a0_0, .string a0_1, .string a0_2, .string a0_3]) (.int .i64 1)).run Try.prog w = .ok (.string a0_1) w := fun _ => by kernel_rfl
  have i2 : ∀ w, (Instr.index 35 (.agg #[.string a0_0, .string a0_1, .string a0_2, .string a0_3]) (.int .i64 2)).run Try.prog w = .ok (.string a0_2) w := fun _ => by kernel_rfl
  have i3 : ∀ w, (Instr.index 35 (.agg #[.string a0_0, .string a0_1, .string a0_2, .string a0_3]) (.int .i64 3)).run Try.prog w = .ok (.string a0_3) w := fun _ => by kernel_rfl
  have hbd : ∀ (o : Obj) (n : Nat), Tbl ((w.alloc o).drewN n) := fun o n => (HT.out.below (below_alloc (Below.refl _ _) o)).drewN n
  have hb0 : ∀ (o : Obj), Tbl (w.alloc o) := fun o => HT.out.below (below_alloc (Below.refl _ _) o)
  replace h := Option.bind_eq_some_iff.mp h
  obtain ⟨t0, A0, h⟩ := h
  have B0 := Aside0.mk A0; clear A0
  by_cases c0 : t0 = 0
  · rw [if_pos c0] at h
    subst c0
    replace h := Option.bind_eq_some_iff.mp h
    obtain ⟨t1, A1, h⟩ := h
    have B1 := Aside0.mk A1; clear A1
    by_cases c1 : t1 = 0
    · rw [if_pos c1] at h
      subst c1
      replace h := Option.bind_eq_some_iff.mp h
      obtain ⟨t2, A2, h⟩ := h
      have B2 := Aside0.mk A2; clear A2
      by_cases c2 : t2 = 0
      · rw [if_pos c2] at h
        subst c2
        have B3 := Aside0.mk h
        by_cases c3 : r = 0
        · subst c3
          have HB := Aside0.mk hbd; have HB0 := Aside0.mk hb0; clear hbd hb0 h
          go_enter Try.func8, Try.ntmps8
          go_wp2
          refine wp_loop_rounds 5 ?_
          repeat (rw [rounds_succ]; go_wp2_with (first | (go_at_call 16; (with_reducible refine (lists_checkPattern.calls a0_0 0 _ (by first | exact HB.out _ _ | exact HB0.out _) B0.out).mono ?_); rintro e w' ⟨rfl, ⟨nd, rfl⟩⟩) | (go_at_call 16; (with_reducible refine (lists_checkPattern.calls a0_1 0 _ (by first | exact HB.out _ _ | exact HB0.out _) B1.out).mono ?_); rintro e w' ⟨rfl, ⟨nd, rfl⟩⟩) | (go_at_call 16; (with_reducible refine (lists_checkPattern.calls a0_2 0 _ (by first | exact HB.out _ _ | exact HB0.out _) B2.out).mono ?_); rintro e w' ⟨rfl, ⟨nd, rfl⟩⟩) | (go_at_call 16; (with_reducible refine (lists_checkPattern.calls a0_3 0 _ (by first | exact HB.out _ _ | exact HB0.out _) B3.out).mono ?_); rintro e w' ⟨rfl, ⟨nd, rfl⟩⟩)))
          go_ret
          exact ⟨rfl, by repeat (first | exact Below.refl _ _ | apply pw_below_drewN | apply below_drew | (refine below_alloc ?_ _))⟩
        · have d3 : (r != 0) = true := bne_iff_ne.mpr c3
          clear c3
          have HB := Aside0.mk hbd; have HB0 := Aside0.mk hb0; clear hbd hb0 h
          go_enter Try.func8, Try.ntmps8
          go_wp2
          refine wp_loop_rounds 5 ?_
          repeat (rw [rounds_succ]; go_wp2_with (first | (go_at_call 16; (with_reducible refine (lists_checkPattern.calls a0_0 0 _ (by first | exact HB.out _ _ | exact HB0.out _) B0.out).mono ?_); rintro e w' ⟨rfl, ⟨nd, rfl⟩⟩) | (go_at_call 16; (with_reducible refine (lists_checkPattern.calls a0_1 0 _ (by first | exact HB.out _ _ | exact HB0.out _) B1.out).mono ?_); rintro e w' ⟨rfl, ⟨nd, rfl⟩⟩) | (go_at_call 16; (with_reducible refine (lists_checkPattern.calls a0_2 0 _ (by first | exact HB.out _ _ | exact HB0.out _) B2.out).mono ?_); rintro e w' ⟨rfl, ⟨nd, rfl⟩⟩) | (go_at_call 16; (with_reducible refine (lists_checkPattern.calls a0_3 r _ (by first | exact HB.out _ _ | exact HB0.out _) B3.out).mono ?_); rintro e w' ⟨rfl, ⟨nd, rfl⟩⟩)))
          go_ret
          exact ⟨rfl, by repeat (first | exact Below.refl _ _ | apply pw_below_drewN | apply below_drew | (refine below_alloc ?_ _))⟩
      · rw [if_neg c2] at h
        obtain rfl := Option.some.inj h
        have d2 : (t2 != 0) = true := bne_iff_ne.mpr c2
        clear c2
        have HB := Aside0.mk hbd; have HB0 := Aside0.mk hb0; clear hbd hb0 h
        go_enter Try.func8, Try.ntmps8
        go_wp2
        refine wp_loop_rounds 5 ?_
        repeat (rw [rounds_succ]; go_wp2_with (first | (go_at_call 16; (with_reducible refine (lists_checkPattern.calls a0_0 0 _ (by first | exact HB.out _ _ | exact HB0.out _) B0.out).mono ?_); rintro e w' ⟨rfl, ⟨nd, rfl⟩⟩) | (go_at_call 16; (with_reducible refine (lists_checkPattern.calls a0_1 0 _ (by first | exact HB.out _ _ | exact HB0.out _) B1.out).mono ?_); rintro e w' ⟨rfl, ⟨nd, rfl⟩⟩) | (go_at_call 16; (with_reducible refine (lists_checkPattern.calls a0_2 t2 _ (by first | exact HB.out _ _ | exact HB0.out _) B2.out).mono ?_); rintro e w' ⟨rfl, ⟨nd, rfl⟩⟩)))
        go_ret
        exact ⟨rfl, by repeat (first | exact Below.refl _ _ | apply pw_below_drewN | apply below_drew | (refine below_alloc ?_ _))⟩
    · rw [if_neg c1] at h
      obtain rfl := Option.some.inj h
      have d1 : (t1 != 0) = true := bne_iff_ne.mpr c1
      clear c1
      have HB := Aside0.mk hbd; have HB0 := Aside0.mk hb0; clear hbd hb0 h
      go_enter Try.func8, Try.ntmps8
      go_wp2
      refine wp_loop_rounds 5 ?_
      repeat (rw [rounds_succ]; go_wp2_with (first | (go_at_call 16; (with_reducible refine (lists_checkPattern.calls a0_0 0 _ (by first | exact HB.out _ _ | exact HB0.out _) B0.out).mono ?_); rintro e w' ⟨rfl, ⟨nd, rfl⟩⟩) | (go_at_call 16; (with_reducible refine (lists_checkPattern.calls a0_1 t1 _ (by first | exact HB.out _ _ | exact HB0.out _) B1.out).mono ?_); rintro e w' ⟨rfl, ⟨nd, rfl⟩⟩)))
      go_ret
      exact ⟨rfl, by repeat (first | exact Below.refl _ _ | apply pw_below_drewN | apply below_drew | (refine below_alloc ?_ _))⟩
  · rw [if_neg c0] at h
    obtain rfl := Option.some.inj h
    have d0 : (t0 != 0) = true := bne_iff_ne.mpr c0
    clear c0
    have HB := Aside0.mk hbd; have HB0 := Aside0.mk hb0; clear hbd hb0 h
    go_enter Try.func8, Try.ntmps8
    go_wp2
    refine wp_loop_rounds 5 ?_
    repeat (rw [rounds_succ]; go_wp2_with (first | (go_at_call 16; (with_reducible refine (lists_checkPattern.calls a0_0 t0 _ (by first | exact HB.out _ _ | exact HB0.out _) B0.out).mono ?_); rintro e w' ⟨rfl, ⟨nd, rfl⟩⟩)))
    go_ret
    exact ⟨rfl, by repeat (first | exact Below.refl _ _ | apply pw_below_drewN | apply below_drew | (refine below_alloc ?_ _))⟩

end Go.Proofs.Ytalojokihccboaa.PLists
