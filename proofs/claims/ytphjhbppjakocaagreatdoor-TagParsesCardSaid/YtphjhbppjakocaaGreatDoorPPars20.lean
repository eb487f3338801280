/- Printed by a program (the kit's print.py with changes of this session) out of Lean's own print of the program: functions of the program as plain Lean functions, and that each call comes to what they say; conditions: those that each theorem states. Not trusted: Lean checks it. -/
import Derived.Test.YtphjhbppjakocaaGreatDoorPPars0
import Derived.Test.YtphjhbppjakocaaGreatDoorBrief
import Derived.Test.YtphjhbppjakocaaGreatDoorPPars14
import Derived.Test.YtphjhbppjakocaaGreatDoorPPars17
import Derived.Test.YtphjhbppjakocaaGreatDoorPPars19
namespace Go.Proofs.YtphjhbppjakocaaGreatDoor.PTag
open Go.RowKit Go.Proofs.YtphjhbppjakocaaGreatDoorW.PrintWords Go.Proofs.YtphjhbppjakocaaGreatDoorW.PrintLast Go.Proofs.YtphjhbppjakocaaGreatDoorW.PrintMore
attribute [local go_sem] max2_int min2_int max_two min_two max_three min_three max_four min_four
set_option linter.unusedVariables false
set_option linter.unusedSimpArgs false
attribute [local go_sem] setCell_drewN_ cell_put_twice_ gtr_less_
mutual
def idiomref07_keys.l0 : Nat → List ByteArray → List Int → Int → ByteArray → ByteArray → ByteArray → List ByteArray → List (S39) → Option (ByteArray × ByteArray × ByteArray × List ByteArray × (List (S39)) × Int × Int)
 | 0, _, _, _, _, _, _, _, _ => none
 | k + 1, x1, x2, x3, x251000, x251001, x251002, x251003, x251004 => if x3 < (x1.length : Int) then (if 0 ≤ x3 then ((idiomref07_signs.f k (rdOf ByteArray.empty x1 x3) 2 2).bind fun t253 => (if t253 = true then ((idiomref07_Small.f (rdOf ByteArray.empty x1 x3)).bind fun t256 => (if x3 < (x2.length : Int) then (idiomref07_keys.l1 k x1 x2 (wrap64 (x3 + 1)) t256 (rd x2 x3) (⟨#[]⟩ : ByteArray) x251000 x251001 x251002 x251003 x251004) else (none))) else (if x3 < (x2.length : Int) then (some (x251000, x251001, x251002, x251003, x251004, rd x2 x3, 70)) else (none)))) else (none)) else (some (x251000, x251001, x251002, x251003, x251004, 0, 0))
def idiomref07_keys.l1 : Nat → List ByteArray → List Int → Int → ByteArray → Int → ByteArray → ByteArray → ByteArray → ByteArray → List ByteArray → List (S39) → Option (ByteArray × ByteArray × ByteArray × List ByteArray × (List (S39)) × Int × Int)
 | 0, _, _, _, _, _, _, _, _, _, _, _ => none
 | k + 1, x1, x2, x3, x13, x14, x15, x251000, x251001, x251002, x251003, x251004 => if x3 < (x1.length : Int) then (if 0 ≤ x3 then ((idiomref07_signs.f k (rdOf ByteArray.empty x1 x3) 3 8).bind fun t259 => (idiomref07_keys.j2 k x1 x2 x3 x13 x14 x15 t259 x251000 x251001 x251002 x251003 x251004)) else (none)) else (idiomref07_keys.j2 k x1 x2 x3 x13 x14 x15 false x251000 x251001 x251002 x251003 x251004)
def idiomref07_keys.j2 : Nat → List ByteArray → List Int → Int → ByteArray → Int → ByteArray → Bool → ByteArray → ByteArray → ByteArray → List ByteArray → List (S39) → Option (ByteArray × ByteArray × ByteArray × List ByteArray × (List (S39)) × Int × Int)
 | 0, _, _, _, _, _, _, _, _, _, _, _, _ => none
 | k + 1, x1, x2, x3, x13, x14, x15, x60, x251000, x251001, x251002, x251003, x251004 => if x60 = true then (if x15.toList = ([] : List UInt8) then (idiomref07_keys.j3 k x1 x2 x3 x13 x14 x15 x251000 x251001 x251002 x251003 x251004) else (if x15.size + 1 ≤ 9223372036854775807 then (idiomref07_keys.j3 k x1 x2 x3 x13 x14 (x15 ++ (⟨#[45]⟩ : ByteArray)) x251000 x251001 x251002 x251003 x251004) else (none))) else (if x15.toList = ([116, 114, 117, 101] : List UInt8) then (idiomref07_keys.j4 k x1 x2 x3 x13 x14 (⟨#[]⟩ : ByteArray) x251000 x251001 x251002 x251003 x251004) else (idiomref07_keys.j4 k x1 x2 x3 x13 x14 x15 x251000 x251001 x251002 x251003 x251004))
def idiomref07_keys.j3 : Nat → List ByteArray → List Int → Int → ByteArray → Int → ByteArray → ByteArray → ByteArray → ByteArray → List ByteArray → List (S39) → Option (ByteArray × ByteArray × ByteArray × List ByteArray × (List (S39)) × Int × Int)
 | 0, _, _, _, _, _, _, _, _, _, _, _ => none
 | k + 1, x1, x2, x3, x13, x14, x15, x251000, x251001, x251002, x251003, x251004 => if 0 ≤ x3 then (if x3 < (x1.length : Int) then ((idiomref07_Small.f (rdOf ByteArray.empty x1 x3)).bind fun t261 => (if x15.size + t261.size ≤ 9223372036854775807 then (idiomref07_keys.l1 k x1 x2 (wrap64 (x3 + 1)) x13 x14 (x15 ++ t261) x251000 x251001 x251002 x251003 x251004) else (none))) else (none)) else (none)
def idiomref07_keys.j4 : Nat → List ByteArray → List Int → Int → ByteArray → Int → ByteArray → ByteArray → ByteArray → ByteArray → List ByteArray → List (S39) → Option (ByteArray × ByteArray × ByteArray × List ByteArray × (List (S39)) × Int × Int)
 | 0, _, _, _, _, _, _, _, _, _, _, _ => none
 | k + 1, x1, x2, x3, x13, x14, x15, x251000, x251001, x251002, x251003, x251004 => (idiomref07_putKey.f k x251004 x13 x15).bind fun bt262 => (if bt262.2 = true then (if (bt262.1.length : Int) > 64 then (some (x251000, x251001, x251002, x251003, x251004, x14, 5)) else (idiomref07_keys.l0 k x1 x2 x3 x251000 x251001 x251002 x251003 bt262.1)) else (some (x251000, x251001, x251002, x251003, x251004, x14, 6)))
end
def idiomref07_keys.f (k : Nat) (a0_0 : ByteArray) (a0_1 : ByteArray) (a0_2 : ByteArray) (l0_3 : List ByteArray) (l0_4 : List (S39)) (l1 : List ByteArray) (l2 : List Int) (a3 : Int) (a4 : Int) : Option (ByteArray × ByteArray × ByteArray × List ByteArray × (List (S39)) × Int × Int) := if a3 = (l1.length : Int) then (some (a0_0, a0_1, a0_2, l0_3, l0_4, a4, 70)) else (idiomref07_keys.l0 k l1 l2 a3 a0_0 a0_1 a0_2 l0_3 l0_4)
def idiomref07_keys.T5 : Bool × List (List Nat × List Nat) := (true, [([], []), ([], []), ([], []), ([1, 2], [1, 2]), ([3], [3]), ([0, 0], [0]), ([4, 5, 0, 1, 2, 3, 4, 5], [4]), ([6, 0, 1, 2, 3, 4, 5, 6], [])])
def idiomref07_keys.B5 : List Nat := [0, 0, 0, 6, 14, 1, 63, 127]
theorem idiomref07_keys.tab5 : rtab .any (opsOf Tryz.f82 5) = idiomref07_keys.T5 := by kernel_rfl
theorem idiomref07_keys.bits5 : waitsOk idiomref07_keys.T5.2 idiomref07_keys.B5 = true := by kernel_rfl
def idiomref07_keys.T6 : Bool × List (List Nat × List Nat) := (true, [([], []), ([], []), ([0, 1], [0, 1]), ([2], [2]), ([3], [3]), ([], []), ([], []), ([5, 6], [5, 6]), ([7], [7]), ([4, 4, 0, 1, 2, 3, 4], [4]), ([8, 9, 0, 1, 2, 3, 4, 5, 6, 7, 8, 9], [8]), ([10, 0, 1, 2, 3, 4, 5, 6, 7, 8, 9, 10], [])])
def idiomref07_keys.B6 : List Nat := [0, 0, 3, 7, 15, 0, 0, 96, 224, 31, 1023, 2047]
theorem idiomref07_keys.tab6 : rtab .any (opsOf Tryz.f82 6) = idiomref07_keys.T6 := by kernel_rfl
theorem idiomref07_keys.bits6 : waitsOk idiomref07_keys.T6.2 idiomref07_keys.B6 = true := by kernel_rfl
set_option maxHeartbeats 8000000 in
set_option maxRecDepth 100000 in
theorem idiomref07_keys.calls (k : Nat) (a0_0 : ByteArray) (a0_1 : ByteArray) (a0_2 : ByteArray) (P0_3_ : Nat → Prop) (A0_3 : Option Addr) (c0_3 : Nat) (l0_3 : List ByteArray) (P0_4_ : Nat → Prop) (A0_4 : Option Addr) (c0_4 : Nat) (l0_4 : List (S39)) (A1 : Option Addr) (c1 : Nat) (l1 : List ByteArray) (A2 : Option Addr) (c2 : Nat) (l2 : List Int) (a3 : Int) (a4 : Int) (r1 : ByteArray) (r2 : ByteArray) (r3 : ByteArray) (r4 : List ByteArray) (r5 : List (S39)) (r6 : Int) (r7 : Int) (w : World) (hs0_3 : Kd.V Kd.string 9 w w.heap.size (fun k_ => P0_3_ k_) (.slice A0_3 l0_3.length c0_3) l0_3) (hs0_4 : Kd.V k39 39 w w.heap.size (fun k_ => P0_4_ k_) (.slice A0_4 l0_4.length c0_4) l0_4) (hr1 : Kd.C Kd.string w A1 l1.length l1) (hc1 : l1.length ≤ c1) (hr2 : Kd.C (Kd.int .i64) w A2 l2.length l2) (hc2 : l2.length ≤ c2) (h : idiomref07_keys.f k a0_0 a0_1 a0_2 l0_3 l0_4 l1 l2 a3 a4 = some (r1, r2, r3, r4, r5, r6, r7)) :
  Calls Tryz.prog 82 #[.agg #[.string a0_0, .string a0_1, .string a0_2, .slice A0_3 l0_3.length c0_3, .slice A0_4 l0_4.length c0_4], .slice A1 l1.length c1, .slice A2 l2.length c2, .int .i64 a3, .int .i64 a4] w fun e w' => ∃ v3_ v4_ : Value, e = .returned (.tuple #[.agg #[.string r1, .string r2, .string r3, v3_, v4_], .int .i64 r6, .int .i64 r7]) ∧ Kd.V Kd.string 9 w' w.heap.size (fun k_ => ((P0_3_ k_ ∨ P0_4_ k_) ∨ w.heap.size ≤ k_)) v3_ r4 ∧ Kd.V k39 39 w' w.heap.size (fun k_ => ((P0_3_ k_ ∨ P0_4_ k_) ∨ w.heap.size ≤ k_)) v4_ r5 ∧ Below w.heap.size w w' := by
 have hu25 := Tryz.underlying25
 have hu39 := Tryz.underlying39
 have HO0_3 := Aside0.mk (show Kd.V Kd.string 9 w w.heap.size (fun k_ => ((P0_3_ k_ ∨ P0_4_ k_) ∨ w.heap.size ≤ k_)) (.slice A0_3 l0_3.length c0_3) l0_3 from Kd.V_mono hs0_3 (fun k_ hk => .inl (.inl hk)))
 have HO0_4 := Aside0.mk (show Kd.V k39 39 w w.heap.size (fun k_ => ((P0_3_ k_ ∨ P0_4_ k_) ∨ w.heap.size ≤ k_)) (.slice A0_4 l0_4.length c0_4) l0_4 from Kd.V_mono hs0_4 (fun k_ hk => .inl (.inr hk)))
 have HR1 := Aside0.mk hr1
 have HC1 := Aside0.mk hc1
 clear hr1 hc1
 have HR2 := Aside0.mk hr2
 have HC2 := Aside0.mk hc2
 clear hr2 hc2
 have HB := Aside0.mk (Below.refl w.heap.size w)
 have H : (if a3 = (l1.length : Int) then (some (a0_0, a0_1, a0_2, l0_3, l0_4, a4, 70)) else (idiomref07_keys.l0 k l1 l2 a3 a0_0 a0_1 a0_2 l0_3 l0_4)) = some (r1, r2, r3, r4, r5, r6, r7) := h
 clear h
 by_cases c6 : a3 = (l1.length : Int)
 ·rw [if_pos c6] at H
  have c6b0 : (a3 == (l1.length : Int)) = true := beq_iff_eq.mpr c6
  have c6b1 : (a3 != (l1.length : Int)) = false := bne_eq_false_iff_eq.mpr c6
  clear c6
  simp only [Option.some.injEq, Prod.mk.injEq] at H
  obtain ⟨rfl, rfl, rfl, rfl, rfl, rfl, rfl⟩ := H
  go_enter Tryz.func82, Tryz.ntmps82
  go_wp2_with (first | ((with_reducible refine gate_dst (N := 5) rfl ?_); refine box_event ?hg (N := 5) ?hd (cs := #[.string a0_0, .string a0_1, .string a0_2, .slice A0_3 l0_3.length c0_3, .slice A0_4 l0_4.length c0_4]) (t := 25) ?hr ?_; (case hd => rfl); (case hg => rfl); (case hr => first | (go_simp; done) | (go_simp; rfl)); intro gb250 hg w7 hbox hb; replace HO0_3 := Aside0.mk (Kd.V_below (Kd.V_elderB (va_ HO0_3) gb250 (Nat.le_of_eq hg.symm)) hb); replace HO0_4 := Aside0.mk (Kd.V_below (Kd.V_elderB (va_ HO0_4) gb250 (Nat.le_of_eq hg.symm)) hb); have BK250 := Aside0.mk (hbox); have GW250 := Aside0.mk ((by rw [hg]; exact hz_ : w.heap.size ≤ gb250)); have GE250 := Aside0.mk ((by rw [hg]; exact hz_ : w.heap.size ≤ gb250)); replace HB := Aside0.mk (below_step hb_ hb); clear hb hbox hg) | ((with_reducible refine gate_dst (N := 10) rfl ?_); refine box_event ?hg (N := 10) ?hd (cs := #[.string (⟨#[]⟩ : ByteArray), .string (⟨#[]⟩ : ByteArray), .string (⟨#[]⟩ : ByteArray), .slice none 0 0, .slice none 0 0]) (t := 25) ?hr ?_; (case hd => rfl); (case hg => rfl); (case hr => first | (go_simp; done) | (go_simp; rfl)); intro gb251 hg w8 hbox hb; replace HO0_3 := Aside0.mk (Kd.V_below (Kd.V_elderB (va_ HO0_3) gb251 (Nat.le_of_eq hg.symm)) hb); replace HO0_4 := Aside0.mk (Kd.V_below (Kd.V_elderB (va_ HO0_4) gb251 (Nat.le_of_eq hg.symm)) hb); have BK251 := Aside0.mk (hbox); have GW251 := Aside0.mk ((by rw [hg]; exact (below_size (by repeat (first | (with_reducible first | exact HB.out | apply below_alloc | apply pw_below_drewN | apply below_drew1 | refine below_set ?_ GE250.out) | exact HB.out))) : w.heap.size ≤ gb251)); have GE251 := Aside0.mk ((by rw [hg]; exact (below_size (by repeat (first | (with_reducible first | exact HB.out | apply below_alloc | apply pw_below_drewN | apply below_drew1 | refine below_set ?_ GE250.out) | exact HB.out))) : w.heap.size ≤ gb251)); replace HB := Aside0.mk (below_step (by repeat (first | (with_reducible first | exact HB.out | apply below_alloc | apply pw_below_drewN | apply below_drew1 | refine below_set ?_ GE250.out) | exact HB.out)) hb); have NB250_251 := Aside0.mk ((by rw [hg]; exact Nat.ne_of_lt (blk_lt (g := gb250) (o := .cells #[.string a0_0, .string a0_1, .string a0_2, .slice A0_3 l0_3.length c0_3, .slice A0_4 l0_4.length c0_4] 25 (0, 0)) (bk_ BK250)) : gb250 ≠ gb251)); have NB251_250 := Aside0.mk ((by rw [hg]; exact Nat.ne_of_gt (blk_lt (g := gb250) (o := .cells #[.string a0_0, .string a0_1, .string a0_2, .slice A0_3 l0_3.length c0_3, .slice A0_4 l0_4.length c0_4] 25 (0, 0)) (bk_ BK250)) : gb251 ≠ gb250)); replace BK250 := Aside0.mk (blk_below (g := gb250) (o := .cells #[.string a0_0, .string a0_1, .string a0_2, .slice A0_3 l0_3.length c0_3, .slice A0_4 l0_4.length c0_4] 25 (0, 0)) (bk_ BK250) hb); clear hb hbox hg; have hnb9 := NB250_251.out; have hnc9 := NB251_250.out; have hcz10_0 : w8.cell? ⟨gb250, 0, none⟩ = some (.string a0_0) := (blk_cell BK250.out 0).trans rfl; have hcz10_1 : w8.cell? ⟨gb250, 1, none⟩ = some (.string a0_1) := (blk_cell BK250.out 1).trans rfl; have hcz10_2 : w8.cell? ⟨gb250, 2, none⟩ = some (.string a0_2) := (blk_cell BK250.out 2).trans rfl; have hcz10_3 : w8.cell? ⟨gb250, 3, none⟩ = some (.slice A0_3 l0_3.length c0_3) := (blk_cell BK250.out 3).trans rfl; have hcz10_4 : w8.cell? ⟨gb250, 4, none⟩ = some (.slice A0_4 l0_4.length c0_4) := (blk_cell BK250.out 4).trans rfl; have hfz10_0 := blk_frozen BK250.out 0; have hfz10_1 := blk_frozen BK250.out 1; have hfz10_2 := blk_frozen BK250.out 2; have hfz10_3 := blk_frozen BK250.out 3; have hfz10_4 := blk_frozen BK250.out 4; have hcz11_0 : w8.cell? ⟨gb251, 0, none⟩ = some (.string (⟨#[]⟩ : ByteArray)) := (blk_cell BK251.out 0).trans rfl; have hcz11_1 : w8.cell? ⟨gb251, 1, none⟩ = some (.string (⟨#[]⟩ : ByteArray)) := (blk_cell BK251.out 1).trans rfl; have hcz11_2 : w8.cell? ⟨gb251, 2, none⟩ = some (.string (⟨#[]⟩ : ByteArray)) := (blk_cell BK251.out 2).trans rfl; have hcz11_3 : w8.cell? ⟨gb251, 3, none⟩ = some (.slice none 0 0) := (blk_cell BK251.out 3).trans rfl; have hcz11_4 : w8.cell? ⟨gb251, 4, none⟩ = some (.slice none 0 0) := (blk_cell BK251.out 4).trans rfl; have hfz11_0 := blk_frozen BK251.out 0; have hfz11_1 := blk_frozen BK251.out 1; have hfz11_2 := blk_frozen BK251.out 2; have hfz11_3 := blk_frozen BK251.out 3; have hfz11_4 := blk_frozen BK251.out 4))
  refine bodyPost_ret (results_ctt rfl _ _ gb251 25 #[.string a0_0, .string a0_1, .string a0_2, .slice A0_3 l0_3.length c0_3, .slice A0_4 l0_4.length c0_4] (0, 0) _ rfl (by (with_reducible repeat (first | refine blk_drewN ?_ _ | refine blk_drew ?_ | refine blk_alloc ?_ _)); refine blk_put (cs := #[.string a0_0, .string a0_1, .string a0_2, .slice A0_3 l0_3.length c0_3, .slice none 0 0]) ?_ 4 _ rfl; (with_reducible repeat (first | refine blk_drewN ?_ _ | refine blk_drew ?_ | refine blk_alloc ?_ _)); refine blk_put (cs := #[.string a0_0, .string a0_1, .string a0_2, .slice none 0 0, .slice none 0 0]) ?_ 3 _ (by first | rfl | simp); (with_reducible repeat (first | refine blk_drewN ?_ _ | refine blk_drew ?_ | refine blk_alloc ?_ _)); refine blk_put (cs := #[.string a0_0, .string a0_1, .string (⟨#[]⟩ : ByteArray), .slice none 0 0, .slice none 0 0]) ?_ 2 _ rfl; (with_reducible repeat (first | refine blk_drewN ?_ _ | refine blk_drew ?_ | refine blk_alloc ?_ _)); refine blk_put (cs := #[.string a0_0, .string (⟨#[]⟩ : ByteArray), .string (⟨#[]⟩ : ByteArray), .slice none 0 0, .slice none 0 0]) ?_ 1 _ rfl; (with_reducible repeat (first | refine blk_drewN ?_ _ | refine blk_drew ?_ | refine blk_alloc ?_ _)); refine blk_put (cs := #[.string (⟨#[]⟩ : ByteArray), .string (⟨#[]⟩ : ByteArray), .string (⟨#[]⟩ : ByteArray), .slice none 0 0, .slice none 0 0]) ?_ 0 _ rfl; (with_reducible repeat (first | refine blk_drewN ?_ _ | refine blk_drew ?_ | refine blk_alloc ?_ _)); exact BK251.out) Tryz.underlying25 rfl (by kernel_rfl)) rfl ?_
  exact ⟨_, _, by first | rfl | (simp [errW_none, errW_some] <;> rfl) | (simp [*, errW_none, errW_some] <;> rfl), by (with_reducible repeat (first | apply Kd.V_alloc | apply Kd.V_drewN | apply Kd.V_drew)); exact Kd.V_mono (Kd.V_far (p := ⟨gb251, 4, none⟩) (Kd.V_far (p := ⟨gb251, 3, none⟩) (Kd.V_far (p := ⟨gb251, 2, none⟩) (Kd.V_far (p := ⟨gb251, 1, none⟩) (Kd.V_far (p := ⟨gb251, 0, none⟩) (Kd.V_mono HO0_3.out (fun k_ hk => (⟨hk, hk.2⟩ : _ ∧ k_ ≠ gb251))) (fun _ hk => hk.2) (.string a0_0)) (fun _ hk => hk.2) (.string a0_1)) (fun _ hk => hk.2) (.string a0_2)) (fun _ hk => hk.2) (.slice A0_3 l0_3.length c0_3)) (fun _ hk => hk.2) (.slice A0_4 l0_4.length c0_4)) (fun _ hk => hk.1.1.1), by (with_reducible repeat (first | apply Kd.V_alloc | apply Kd.V_drewN | apply Kd.V_drew)); exact Kd.V_mono (Kd.V_far (p := ⟨gb251, 4, none⟩) (Kd.V_far (p := ⟨gb251, 3, none⟩) (Kd.V_far (p := ⟨gb251, 2, none⟩) (Kd.V_far (p := ⟨gb251, 1, none⟩) (Kd.V_far (p := ⟨gb251, 0, none⟩) (Kd.V_mono HO0_4.out (fun k_ hk => (⟨hk, hk.2⟩ : _ ∧ k_ ≠ gb251))) (fun _ hk => hk.2) (.string a0_0)) (fun _ hk => hk.2) (.string a0_1)) (fun _ hk => hk.2) (.string a0_2)) (fun _ hk => hk.2) (.slice A0_3 l0_3.length c0_3)) (fun _ hk => hk.2) (.slice A0_4 l0_4.length c0_4)) (fun _ hk => hk.1.1.1), by repeat (first | (with_reducible first | exact HB.out | apply below_alloc | apply pw_below_drewN | apply below_drew1 | refine below_set ?_ GE250.out | refine below_set ?_ GE251.out) | exact HB.out)⟩
 ·rw [if_neg c6] at H
  have c6b0 : (a3 == (l1.length : Int)) = false := beq_eq_false_iff_ne.mpr c6
  have c6b1 : (a3 != (l1.length : Int)) = true := bne_iff_ne.mpr c6
  have H' := Aside0.mk H
  clear H
  go_enter Tryz.func82, Tryz.ntmps82
  go_wp2_with (first | ((with_reducible refine gate_dst (N := 5) rfl ?_); refine box_event ?hg (N := 5) ?hd (cs := #[.string a0_0, .string a0_1, .string a0_2, .slice A0_3 l0_3.length c0_3, .slice A0_4 l0_4.length c0_4]) (t := 25) ?hr ?_; (case hd => rfl); (case hg => rfl); (case hr => first | (go_simp; done) | (go_simp; rfl)); intro gb250 hg w12 hbox hb; replace HO0_3 := Aside0.mk (Kd.V_below (Kd.V_elderB (va_ HO0_3) gb250 (Nat.le_of_eq hg.symm)) hb); replace HO0_4 := Aside0.mk (Kd.V_below (Kd.V_elderB (va_ HO0_4) gb250 (Nat.le_of_eq hg.symm)) hb); have BK250 := Aside0.mk (hbox); have GW250 := Aside0.mk ((by rw [hg]; exact hz_ : w.heap.size ≤ gb250)); have GE250 := Aside0.mk ((by rw [hg]; exact hz_ : w.heap.size ≤ gb250)); replace HB := Aside0.mk (below_step hb_ hb); clear hb hbox hg) | ((with_reducible refine gate_dst (N := 10) rfl ?_); refine box_event ?hg (N := 10) ?hd (cs := #[.string (⟨#[]⟩ : ByteArray), .string (⟨#[]⟩ : ByteArray), .string (⟨#[]⟩ : ByteArray), .slice none 0 0, .slice none 0 0]) (t := 25) ?hr ?_; (case hd => rfl); (case hg => rfl); (case hr => first | (go_simp; done) | (go_simp; rfl)); intro gb251 hg w13 hbox hb; replace HO0_3 := Aside0.mk (Kd.V_below (Kd.V_elderB (va_ HO0_3) gb251 (Nat.le_of_eq hg.symm)) hb); replace HO0_4 := Aside0.mk (Kd.V_below (Kd.V_elderB (va_ HO0_4) gb251 (Nat.le_of_eq hg.symm)) hb); have BK251 := Aside0.mk (hbox); have GW251 := Aside0.mk ((by rw [hg]; exact (below_size (by repeat (first | (with_reducible first | exact HB.out | apply below_alloc | apply pw_below_drewN | apply below_drew1 | refine below_set ?_ GE250.out) | exact HB.out))) : w.heap.size ≤ gb251)); have GE251 := Aside0.mk ((by rw [hg]; exact (below_size (by repeat (first | (with_reducible first | exact HB.out | apply below_alloc | apply pw_below_drewN | apply below_drew1 | refine below_set ?_ GE250.out) | exact HB.out))) : w.heap.size ≤ gb251)); replace HB := Aside0.mk (below_step (by repeat (first | (with_reducible first | exact HB.out | apply below_alloc | apply pw_below_drewN | apply below_drew1 | refine below_set ?_ GE250.out) | exact HB.out)) hb); have NB250_251 := Aside0.mk ((by rw [hg]; exact Nat.ne_of_lt (blk_lt (g := gb250) (o := .cells #[.string a0_0, .string a0_1, .string a0_2, .slice A0_3 l0_3.length c0_3, .slice A0_4 l0_4.length c0_4] 25 (0, 0)) (bk_ BK250)) : gb250 ≠ gb251)); have NB251_250 := Aside0.mk ((by rw [hg]; exact Nat.ne_of_gt (blk_lt (g := gb250) (o := .cells #[.string a0_0, .string a0_1, .string a0_2, .slice A0_3 l0_3.length c0_3, .slice A0_4 l0_4.length c0_4] 25 (0, 0)) (bk_ BK250)) : gb251 ≠ gb250)); replace BK250 := Aside0.mk (blk_below (g := gb250) (o := .cells #[.string a0_0, .string a0_1, .string a0_2, .slice A0_3 l0_3.length c0_3, .slice A0_4 l0_4.length c0_4] 25 (0, 0)) (bk_ BK250) hb); clear hb hbox hg))
  go_loopg [3] k (fun kq v3 w' => ∃ (x3_1 : Int) (x251004_1 : List (S39)) (x252000_1 : ByteArray) (x252001_1 : ByteArray) (x252002_1 : ByteArray) (u251004 : Value), v3 = .int .i64 x3_1 ∧ Aside0 (idiomref07_keys.l0 kq l1 l2 x3_1 a0_0 a0_1 a0_2 l0_3 x251004_1 = some (r1, r2, r3, r4, r5, r6, r7)) ∧ Aside0 (kq ≤ k) ∧ Aside0 (Kd.V Kd.string 9 w' w.heap.size (fun k_ => ((P0_3_ k_ ∨ P0_4_ k_) ∨ w.heap.size ≤ k_) ∧ k_ ≠ gb250 ∧ k_ ≠ gb251) (.slice A0_3 l0_3.length c0_3) l0_3) ∧ Aside0 (Kd.V k39 39 w' w.heap.size (fun k_ => ((P0_3_ k_ ∨ P0_4_ k_) ∨ w.heap.size ≤ k_) ∧ k_ ≠ gb250 ∧ k_ ≠ gb251) u251004 x251004_1) ∧ Aside0 (w'.heap[gb250]? = some (.cells #[.string a0_0, .string a0_1, .string a0_2, (.slice A0_3 l0_3.length c0_3), u251004] 25 (0, 0))) ∧ Aside0 (w'.heap[gb251]? = some (.cells #[.string x252000_1, .string x252001_1, .string x252002_1, (.slice none 0 0), (.slice none 0 0)] 25 (0, 0))) ∧ Aside0 (Below w.heap.size w w'))
  case atStart => exact ⟨(a3), (l0_4), ((⟨#[]⟩ : ByteArray)), ((⟨#[]⟩ : ByteArray)), ((⟨#[]⟩ : ByteArray)), (.slice A0_4 l0_4.length c0_4), (by first | rfl | (simp; done) | (simp [*]; done)), H', ⟨Nat.le_refl _⟩, ⟨by (with_reducible repeat (first | apply Kd.V_alloc | apply Kd.V_drewN | apply Kd.V_drew)); exact Kd.V_mono HO0_3.out (fun _ hk => ⟨hk.1.1, ⟨hk.1.2, hk.2⟩⟩)⟩, ⟨by (with_reducible repeat (first | apply Kd.V_alloc | apply Kd.V_drewN | apply Kd.V_drew)); exact Kd.V_mono HO0_4.out (fun _ hk => ⟨hk.1.1, ⟨hk.1.2, hk.2⟩⟩)⟩, ⟨by (with_reducible repeat (first | refine blk_drewN ?_ _ | refine blk_drew ?_ | refine blk_alloc ?_ _)); exact BK250.out⟩, ⟨by (with_reducible repeat (first | refine blk_drewN ?_ _ | refine blk_drew ?_ | refine blk_alloc ?_ _)); exact BK251.out⟩, ⟨by repeat (first | (with_reducible first | exact HB.out | apply below_alloc | apply pw_below_drewN | apply below_drew1 | refine below_set ?_ GE250.out | refine below_set ?_ GE251.out) | exact HB.out)⟩⟩
  case round =>
   clear H'
   clear c6 c6b0 c6b1
   obtain ⟨x3_1, x251004_1, x252000_1, x252001_1, x252002_1, u251004, rfl, HA, HK1, HO_251003, HO_251004, BK250, BK251, HB⟩ := hrel
   cases gk with
   | zero => exact absurd HA.out (by simp [idiomref07_keys.l0])
   | succ k1 =>
    have H := HA.out
    clear HA
    simp only [idiomref07_keys.l0] at H
    by_cases c14 : x3_1 < (l1.length : Int)
    ·rw [if_pos c14] at H
     have c14b0 : decide (x3_1 < (l1.length : Int)) = true := decide_eq_true c14
     clear c14
     by_cases c15 : 0 ≤ x3_1
     ·rw [if_pos c15] at H
      have c15b0 : decide (0 ≤ x3_1) = true := decide_eq_true c15
      clear c15
      replace H := Option.bind_eq_some_iff.mp H
      obtain ⟨t253, A160, H⟩ := H
      try dsimp only at H
      have A16 := Aside0.mk A160
      clear A160
      by_cases c17 : t253 = true
      ·subst c17
       have H1 : ((idiomref07_Small.f (rdOf ByteArray.empty l1 x3_1)).bind fun t256 => (if x3_1 < (l2.length : Int) then (idiomref07_keys.l1 k1 l1 l2 (wrap64 (x3_1 + 1)) t256 (rd l2 x3_1) (⟨#[]⟩ : ByteArray) a0_0 a0_1 a0_2 l0_3 x251004_1) else (none))) = some (r1, r2, r3, r4, r5, r6, r7) := by rw [if_pos rfl] at H; exact H
       clear H
       have H := H1
       clear H1
       replace H := Option.bind_eq_some_iff.mp H
       obtain ⟨t256, A180, H⟩ := H
       try dsimp only at H
       have A18 := Aside0.mk A180
       clear A180
       by_cases c19 : x3_1 < (l2.length : Int)
       ·rw [if_pos c19] at H
        have c19b0 : decide (x3_1 < (l2.length : Int)) = true := decide_eq_true c19
        clear c19
        have H' := Aside0.mk H
        clear H
        have p252 : 0 ≤ (x3_1 : Int) := of_decide_eq_true (by first | (with_reducible assumption) | assumption)
        have q252 : x3_1 < (l1.length : Int) := of_decide_eq_true (by first | (with_reducible assumption) | assumption)
        obtain ⟨ad252, e252, hx252_0⟩ := Kd.at_string HR1.out x3_1 p252 q252
        cases e252
        replace hx252_0 := (HB.out.cell (World.block_lt_of_cell? w _ hx252_0)).trans hx252_0
        replace p252 := eq_true p252
        replace q252 := eq_true q252
        try go_wp2_with (first | ((with_reducible refine gate_callee (f := 35) rfl ?_); refine gb_ (some 32) Tryz.func35 #[.string (rdOf ByteArray.empty l1 x3_1), .int .i64 2, .int .i64 2] ?_; (with_reducible refine (idiomref07_signs.calls k1 (rdOf ByteArray.empty l1 x3_1) 2 2 true _ A16.out).mono ?_); rintro e w' ⟨rfl, ⟨nd, rfl⟩⟩; refine ⟨_, rfl, ?_⟩))
        (try (rw [drewN_self wr]; generalize hq_ : World.drewN wr _ = wr; have n0_ : Aside0 (Kd.V Kd.string 9 wr w.heap.size (fun k_ => ((P0_3_ k_ ∨ P0_4_ k_) ∨ w.heap.size ≤ k_) ∧ k_ ≠ gb250 ∧ k_ ≠ gb251) (.slice A0_3 l0_3.length c0_3) l0_3) := ⟨by rw [← hq_]; exact (va_ HO_251003)⟩; have n1_ : Aside0 (Kd.V k39 39 wr w.heap.size (fun k_ => ((P0_3_ k_ ∨ P0_4_ k_) ∨ w.heap.size ≤ k_) ∧ k_ ≠ gb250 ∧ k_ ≠ gb251) u251004 x251004_1) := ⟨by rw [← hq_]; exact (va_ HO_251004)⟩; have n2_ : Aside0 (wr.heap[gb250]? = some (.cells #[.string a0_0, .string a0_1, .string a0_2, .slice A0_3 l0_3.length c0_3, u251004] 25 (0, 0))) := ⟨by rw [← hq_]; exact (bk_ BK250)⟩; have n3_ : Aside0 (wr.heap[gb251]? = some (.cells #[.string x252000_1, .string x252001_1, .string x252002_1, .slice none 0 0, .slice none 0 0] 25 (0, 0))) := ⟨by rw [← hq_]; exact (bk_ BK251)⟩; have n4_ : Aside0 (Below w.heap.size w wr) := ⟨by rw [← hq_]; exact (by repeat (first | (with_reducible first | exact HB.out | apply below_alloc | apply pw_below_drewN | apply below_drew1 | refine below_set ?_ GE250.out | refine below_set ?_ GE251.out) | exact HB.out))⟩; clear HO_251003 HO_251004 BK250 BK251 HB hq_; have HO_251003 := n0_; have HO_251004 := n1_; have BK250 := n2_; have BK251 := n3_; have HB := n4_; clear n0_ n1_ n2_ n3_ n4_; (try (have hu250_0 : wr.cell? ⟨gb250, 0, none⟩ = some (.string a0_0) := (blk_cell BK250.out 0).trans rfl)); (try (have hu250_1 : wr.cell? ⟨gb250, 1, none⟩ = some (.string a0_1) := (blk_cell BK250.out 1).trans rfl)); (try (have hu250_2 : wr.cell? ⟨gb250, 2, none⟩ = some (.string a0_2) := (blk_cell BK250.out 2).trans rfl)); (try (have hu250_3 : wr.cell? ⟨gb250, 3, none⟩ = some (.slice A0_3 l0_3.length c0_3) := (blk_cell BK250.out 3).trans rfl)); (try (have hu250_4 : wr.cell? ⟨gb250, 4, none⟩ = some (u251004) := (blk_cell BK250.out 4).trans rfl)); (try (have hu251_0 : wr.cell? ⟨gb251, 0, none⟩ = some (.string x252000_1) := (blk_cell BK251.out 0).trans rfl)); (try (have hu251_1 : wr.cell? ⟨gb251, 1, none⟩ = some (.string x252001_1) := (blk_cell BK251.out 1).trans rfl)); (try (have hu251_2 : wr.cell? ⟨gb251, 2, none⟩ = some (.string x252002_1) := (blk_cell BK251.out 2).trans rfl)); (try (have hu251_3 : wr.cell? ⟨gb251, 3, none⟩ = some (.slice none 0 0) := (blk_cell BK251.out 3).trans rfl)); (try (have hu251_4 : wr.cell? ⟨gb251, 4, none⟩ = some (.slice none 0 0) := (blk_cell BK251.out 4).trans rfl)); (try (have hv250_0 := blk_frozen BK250.out 0)); (try (have hv250_1 := blk_frozen BK250.out 1)); (try (have hv250_2 := blk_frozen BK250.out 2)); (try (have hv250_3 := blk_frozen BK250.out 3)); (try (have hv250_4 := blk_frozen BK250.out 4)); (try (have hv251_0 := blk_frozen BK251.out 0)); (try (have hv251_1 := blk_frozen BK251.out 1)); (try (have hv251_2 := blk_frozen BK251.out 2)); (try (have hv251_3 := blk_frozen BK251.out 3)); (try (have hv251_4 := blk_frozen BK251.out 4))))
        replace HO_251003 := Aside0.mk (Kd.V_drew HO_251003.out)
        replace HO_251004 := Aside0.mk (Kd.V_drew HO_251004.out)
        replace BK250 := Aside0.mk (blk_drew BK250.out)
        replace BK251 := Aside0.mk (blk_drew BK251.out)
        replace HB := Aside0.mk (below_drew1 HB.out)
        have p255 : 0 ≤ (x3_1 : Int) := of_decide_eq_true (by first | (with_reducible assumption) | assumption)
        have q255 : x3_1 < (l1.length : Int) := of_decide_eq_true (by first | (with_reducible assumption) | assumption)
        obtain ⟨ad255, e255, hx255_0⟩ := Kd.at_string HR1.out x3_1 p255 q255
        have hw255_0 := hx255_0
        obtain rfl : ad252 = ad255 := (by injection e255)
        replace hx255_0 := (HB.out.cell (World.block_lt_of_cell? w _ hx255_0)).trans hx255_0
        replace p255 := eq_true p255
        replace q255 := eq_true q255
        have p257 : 0 ≤ (x3_1 : Int) := of_decide_eq_true (by first | (with_reducible assumption) | assumption)
        have q257 : x3_1 < (l2.length : Int) := of_decide_eq_true (by first | (with_reducible assumption) | assumption)
        obtain ⟨ad257, e257, hx257_0⟩ := Kd.at_int HR2.out x3_1 p257 q257
        have hw257_0 := hx257_0
        cases e257
        replace hx257_0 := (HB.out.cell (World.block_lt_of_cell? w _ hx257_0)).trans hx257_0
        replace p257 := eq_true p257
        replace q257 := eq_true q257
        refine start_ (n := 12) (S := fun w' => w'.cell? (ad252.add (x3_1).toNat) = some (.string (rdOf ByteArray.empty l1 x3_1)) ∧ w'.cell? (ad257.add (x3_1).toNat) = some (.int .i64 (rd l2 x3_1))) (ds := []) (bmp 12 0) (by kernel_rfl) rfl rfl ⟨((HB.out.cell (World.block_lt_of_cell? w _ hw255_0)).trans hw255_0), ((HB.out.cell (World.block_lt_of_cell? w _ hw257_0)).trans hw257_0)⟩ (fun hHeld => ?_); refine with_tabW idiomref07_keys.tab6 idiomref07_keys.bits6 (fun HT_ HW_ => ?_)
        generalize wr.drew = w20 at HO_251003 HO_251004 BK250 BK251 HB hx255_0 hx257_0 hHeld ⊢
        iterate 3 (refine pu_ HT_ ?_)
        refine pure_ (i := 5) (N := some 44) (v := ?_) (a' := ?_) (bm 12 39) rfl rfl (any_of HT_.out (by kernel_rfl)) (fun _ _ _ h => h) (Or.inl ⟨by rfl, ?_⟩) ?_ ?_
        rotate_left
        ·intro w'
         go_simp
         with_reducible rfl
        rotate_left
        ·simp only [Act.put, List.setIfInBounds_toArray, List.set_cons_zero, List.set_cons_succ, i64_w, i32_w]
         rfl
        refine pure_ (i := 6) (N := some 45) (v := ?_) (a' := ?_) (bm 12 103) rfl rfl (any_of HT_.out (by kernel_rfl)) (fun _ _ _ h => h) (Or.inl ⟨by rfl, ?_⟩) ?_ ?_
        rotate_left
        ·intro w'
         go_simp
         with_reducible rfl
        rotate_left
        ·simp only [Act.put, List.setIfInBounds_toArray, List.set_cons_zero, List.set_cons_succ, i64_w, i32_w]
         rfl
        refine pure_ (i := 7) (N := some 46) (v := ?_) (a' := ?_) (bm 12 231) rfl rfl (any_of HT_.out (by kernel_rfl)) (fun _ _ _ h => h) (Or.inl ⟨by rfl, ?_⟩) ?_ ?_
        rotate_left
        ·intro w'
         go_simp
         with_reducible rfl
        rotate_left
        ·simp only [Act.put, List.setIfInBounds_toArray, List.set_cons_zero, List.set_cons_succ, i64_w, i32_w]
         rfl
        refine take_ (i := 3) (N := some 42) (v := ?_) (a' := ?_) (bm 12 239) rfl rfl (take_ofW HT_.out HW_.out (by kernel_rfl)) (fun _ _ _ h => h) (Or.inl ⟨by rfl, ?_⟩) hHeld ?_ ?_
        rotate_left
        ·rintro w' ⟨s0, s1⟩
         go_simp
         with_reducible rfl
        rotate_left
        ·simp only [Act.put, List.setIfInBounds_toArray, List.set_cons_zero, List.set_cons_succ, i64_w, i32_w]
         rfl
        refine take_ (i := 8) (N := some 47) (v := ?_) (a' := ?_) (bm 12 495) rfl rfl (take_ofW HT_.out HW_.out (by kernel_rfl)) (fun _ _ _ h => h) (Or.inl ⟨by rfl, ?_⟩) hHeld ?_ ?_
        rotate_left
        ·rintro w' ⟨s0, s1⟩
         go_simp
         with_reducible rfl
        rotate_left
        ·simp only [Act.put, List.setIfInBounds_toArray, List.set_cons_zero, List.set_cons_succ, i64_w, i32_w]
         rfl
        refine one_ (i := 4) (N := some 43) (bmp 12 9) rfl rfl (one_of HT_.out (by kernel_rfl)) (by decide) (fun K hK => ?_)
        refine goes_ Tryz.func29 (by kernel_rfl) rfl #[.string (rdOf ByteArray.empty l1 x3_1)] (by rfl) rfl rfl (by (try simp only [List.map_toArray, List.map_cons, List.map_nil]); first | done | rfl | (simp only [List.length_drop, List.length_take]; rfl)) ?_
        with_reducible refine (idiomref07_Small.calls (rdOf ByteArray.empty l1 x3_1) t256 _ A18.out).mono ?_
        rintro e w21 ⟨rfl, hb⟩
        refine ⟨_, rfl, ?_⟩
        replace HO_251003 := Aside0.mk (Kd.V_below (va_ HO_251003) hb)
        replace HO_251004 := Aside0.mk (Kd.V_below (va_ HO_251004) hb)
        replace BK250 := Aside0.mk (blk_below (g := gb250) (o := .cells #[.string a0_0, .string a0_1, .string a0_2, .slice A0_3 l0_3.length c0_3, u251004] 25 (0, 0)) (bk_ BK250) hb)
        replace BK251 := Aside0.mk (blk_below (g := gb251) (o := .cells #[.string x252000_1, .string x252001_1, .string x252002_1, .slice none 0 0, .slice none 0 0] 25 (0, 0)) (bk_ BK251) hb)
        replace HB := Aside0.mk (below_step (by repeat (first | (with_reducible first | exact HB.out | apply below_alloc | apply pw_below_drewN | apply below_drew1 | refine below_set ?_ GE250.out | refine below_set ?_ GE251.out) | exact HB.out)) hb)
        (try clear hb)
        (try clear hb2)
        (try clear hk)
        (try clear hi)
        refine hK.out _ _ ⟨((HB.out.cell (World.block_lt_of_cell? w _ hw255_0)).trans hw255_0), ((HB.out.cell (World.block_lt_of_cell? w _ hw257_0)).trans hw257_0)⟩ (fun hHeld => ?_)
        clear hK K
        refine norm_ (a' := ?_) ?_ ?_
        rotate_left
        ·show Act.put _ (some 43) _ = _
         simp only [Act.put, List.setIfInBounds_toArray, List.set_cons_zero, List.set_cons_succ, i64_w, i32_w]
         rfl
        iterate 3 (refine pu_ HT_ ?_)
        refine done_ (done_of HT_.out (by kernel_rfl)) ?_
        try go_wp2
        go_loopg [3, 15] k1 (fun kq v3 v15 w' => ∃ (x3_2 : Int) (x15_2 : ByteArray), v3 = .int .i64 x3_2 ∧ v15 = .string x15_2 ∧ Aside0 (idiomref07_keys.l1 kq l1 l2 x3_2 t256 (rd l2 x3_1) x15_2 a0_0 a0_1 a0_2 l0_3 x251004_1 = some (r1, r2, r3, r4, r5, r6, r7)) ∧ Aside0 (kq ≤ k1) ∧ Aside0 (Kd.V Kd.string 9 w' w.heap.size (fun k_ => ((P0_3_ k_ ∨ P0_4_ k_) ∨ w.heap.size ≤ k_) ∧ k_ ≠ gb250 ∧ k_ ≠ gb251) (.slice A0_3 l0_3.length c0_3) l0_3) ∧ Aside0 (Kd.V k39 39 w' w.heap.size (fun k_ => ((P0_3_ k_ ∨ P0_4_ k_) ∨ w.heap.size ≤ k_) ∧ k_ ≠ gb250 ∧ k_ ≠ gb251) u251004 x251004_1) ∧ Aside0 (w'.heap[gb250]? = some (.cells #[.string a0_0, .string a0_1, .string a0_2, (.slice A0_3 l0_3.length c0_3), u251004] 25 (0, 0))) ∧ Aside0 (w'.heap[gb251]? = some (.cells #[.string x252000_1, .string x252001_1, .string x252002_1, (.slice none 0 0), (.slice none 0 0)] 25 (0, 0))) ∧ Aside0 (Below w.heap.size w w'))
        case atStart => exact ⟨(wrap64 (x3_1 + 1)), ((⟨#[]⟩ : ByteArray)), (by first | rfl | (simp; done) | (simp [*]; done)), (by first | rfl | (simp; done) | (simp [*]; done)), H', ⟨Nat.le_refl _⟩, ⟨by (with_reducible repeat (first | apply Kd.V_alloc | apply Kd.V_drewN | apply Kd.V_drew)); exact HO_251003.out⟩, ⟨by (with_reducible repeat (first | apply Kd.V_alloc | apply Kd.V_drewN | apply Kd.V_drew)); exact HO_251004.out⟩, ⟨by (with_reducible repeat (first | refine blk_drewN ?_ _ | refine blk_drew ?_ | refine blk_alloc ?_ _)); exact BK250.out⟩, ⟨by (with_reducible repeat (first | refine blk_drewN ?_ _ | refine blk_drew ?_ | refine blk_alloc ?_ _)); exact BK251.out⟩, ⟨by repeat (first | (with_reducible first | exact HB.out | apply below_alloc | apply pw_below_drewN | apply below_drew1 | refine below_set ?_ GE250.out | refine below_set ?_ GE251.out) | exact HB.out)⟩⟩
        case round =>
         clear H'
         clear c14b0 c15b0 c19b0 hx252_0 hx255_0 hx257_0 p252 p255 p257 q252 q255 q257
         obtain ⟨x3_2, x15_2, rfl, rfl, HA, HK2, HO_251003, HO_251004, BK250, BK251, HB⟩ := hrel
         cases gk with
         | zero => exact absurd HA.out (by simp [idiomref07_keys.l1])
         | succ k2 =>
          have H := HA.out
          clear HA
          simp only [idiomref07_keys.l1] at H
          have HC22 := Aside0.mk H
          clear H
          go_upto_region 8 with (fail)
          go_cut [60] (fun v60 wc => ∃ (kq : Nat) (x60_21 : Bool), v60 = .bool x60_21 ∧ Aside0 (idiomref07_keys.j2 kq l1 l2 x3_2 t256 (rd l2 x3_1) x15_2 x60_21 a0_0 a0_1 a0_2 l0_3 x251004_1 = some (r1, r2, r3, r4, r5, r6, r7)) ∧ Aside0 (kq ≤ k2) ∧ Aside0 (Kd.V Kd.string 9 wc w.heap.size (fun k_ => ((P0_3_ k_ ∨ P0_4_ k_) ∨ w.heap.size ≤ k_) ∧ k_ ≠ gb250 ∧ k_ ≠ gb251) (.slice A0_3 l0_3.length c0_3) l0_3) ∧ Aside0 (Kd.V k39 39 wc w.heap.size (fun k_ => ((P0_3_ k_ ∨ P0_4_ k_) ∨ w.heap.size ≤ k_) ∧ k_ ≠ gb250 ∧ k_ ≠ gb251) u251004 x251004_1) ∧ Aside0 (wc.heap[gb250]? = some (.cells #[.string a0_0, .string a0_1, .string a0_2, (.slice A0_3 l0_3.length c0_3), u251004] 25 (0, 0))) ∧ Aside0 (wc.heap[gb251]? = some (.cells #[.string x252000_1, .string x252001_1, .string x252002_1, (.slice none 0 0), (.slice none 0 0)] 25 (0, 0))) ∧ Aside0 (Below w.heap.size w wc))
          case first =>
           have H := HC22.out
           clear HC22
           by_cases c23 : x3_2 < (l1.length : Int)
           ·rw [if_pos c23] at H
            have c23b0 : decide (x3_2 < (l1.length : Int)) = true := decide_eq_true c23
            clear c23
            (first | rw [c23b0] | rw [c23b1] | rw [c23b2] | (simp only [i64_w, i32_w]; rw [c23b0]) | skip)
            (try simp only [Bool.not_true, Bool.not_false])
            by_cases c24 : 0 ≤ x3_2
            ·rw [if_pos c24] at H
             have c24b0 : decide (0 ≤ x3_2) = true := decide_eq_true c24
             clear c24
             replace H := Option.bind_eq_some_iff.mp H
             obtain ⟨t259, A250, H⟩ := H
             try dsimp only at H
             have A25 := Aside0.mk A250
             clear A250
             have H' := Aside0.mk H
             clear H
             have p258 : 0 ≤ (x3_2 : Int) := of_decide_eq_true (by first | (with_reducible assumption) | assumption)
             have q258 : x3_2 < (l1.length : Int) := of_decide_eq_true (by first | (with_reducible assumption) | assumption)
             obtain ⟨ad258, e258, hx258_0⟩ := Kd.at_string HR1.out x3_2 p258 q258
             obtain rfl : ad252 = ad258 := (by injection e258)
             replace hx258_0 := (HB.out.cell (World.block_lt_of_cell? w _ hx258_0)).trans hx258_0
             replace p258 := eq_true p258
             replace q258 := eq_true q258
             go_wp2_with (first | (go_at_call 35; (with_reducible refine (idiomref07_signs.calls k2 (rdOf ByteArray.empty l1 x3_2) 3 8 t259 _ A25.out).mono ?_); rintro e w' ⟨rfl, ⟨nd, rfl⟩⟩))
             go_meet
             case rel => exact ⟨_, (t259), (by first | rfl | (simp; done) | (simp [*]; done)), H', ⟨by have := HK1.out; have := HK2.out; first | omega | exact Nat.le_refl _⟩, ⟨by (with_reducible repeat (first | apply Kd.V_alloc | apply Kd.V_drewN | apply Kd.V_drew)); exact HO_251003.out⟩, ⟨by (with_reducible repeat (first | apply Kd.V_alloc | apply Kd.V_drewN | apply Kd.V_drew)); exact HO_251004.out⟩, ⟨by (with_reducible repeat (first | refine blk_drewN ?_ _ | refine blk_drew ?_ | refine blk_alloc ?_ _)); exact BK250.out⟩, ⟨by (with_reducible repeat (first | refine blk_drewN ?_ _ | refine blk_drew ?_ | refine blk_alloc ?_ _)); exact BK251.out⟩, ⟨by repeat (first | (with_reducible first | exact HB.out | apply below_alloc | apply pw_below_drewN | apply below_drew1 | refine below_set ?_ GE250.out | refine below_set ?_ GE251.out) | exact HB.out)⟩⟩
            ·rw [if_neg c24] at H
             exact absurd H (by simp)
           ·rw [if_neg c23] at H
            have c23b0 : decide (x3_2 < (l1.length : Int)) = false := decide_eq_false c23
            clear c23
            (first | rw [c23b0] | rw [c23b1] | rw [c23b2] | (simp only [i64_w, i32_w]; rw [c23b0]) | skip)
            (try simp only [Bool.not_true, Bool.not_false])
            have H' := Aside0.mk H
            clear H
            go_wp2
            go_meet
            case rel => exact ⟨_, (false), (by first | rfl | (simp; done) | (simp [*]; done)), H', ⟨by have := HK1.out; have := HK2.out; first | omega | exact Nat.le_refl _⟩, ⟨by (with_reducible repeat (first | apply Kd.V_alloc | apply Kd.V_drewN | apply Kd.V_drew)); exact HO_251003.out⟩, ⟨by (with_reducible repeat (first | apply Kd.V_alloc | apply Kd.V_drewN | apply Kd.V_drew)); exact HO_251004.out⟩, ⟨by (with_reducible repeat (first | refine blk_drewN ?_ _ | refine blk_drew ?_ | refine blk_alloc ?_ _)); exact BK250.out⟩, ⟨by (with_reducible repeat (first | refine blk_drewN ?_ _ | refine blk_drew ?_ | refine blk_alloc ?_ _)); exact BK251.out⟩, ⟨by repeat (first | (with_reducible first | exact HB.out | apply below_alloc | apply pw_below_drewN | apply below_drew1 | refine below_set ?_ GE250.out | refine below_set ?_ GE251.out) | exact HB.out)⟩⟩
          case rest =>
           clear HC22
           obtain ⟨kq, x60_21, rfl, HA, HJ21, HO_251003, HO_251004, BK250, BK251, HB⟩ := hcut
           cases kq with
           | zero => exact absurd HA.out (by simp [idiomref07_keys.j2])
           | succ kj21 =>
            have H := HA.out
            clear HA
            simp only [idiomref07_keys.j2] at H
            by_cases c26 : x60_21 = true
            ·subst c26
             have H1 : (if x15_2.toList = ([] : List UInt8) then (idiomref07_keys.j3 kj21 l1 l2 x3_2 t256 (rd l2 x3_1) x15_2 a0_0 a0_1 a0_2 l0_3 x251004_1) else (if x15_2.size + 1 ≤ 9223372036854775807 then (idiomref07_keys.j3 kj21 l1 l2 x3_2 t256 (rd l2 x3_1) (x15_2 ++ (⟨#[45]⟩ : ByteArray)) a0_0 a0_1 a0_2 l0_3 x251004_1) else (none))) = some (r1, r2, r3, r4, r5, r6, r7) := by rw [if_pos rfl] at H; exact H
             clear H
             have H := H1
             clear H1
             have HC27 := Aside0.mk H
             clear H
             go_upto_if 64 with (fail)
             go_cut [15] (fun v15 wc => ∃ (kq : Nat) (x15_26 : ByteArray), v15 = .string x15_26 ∧ Aside0 (idiomref07_keys.j3 kq l1 l2 x3_2 t256 (rd l2 x3_1) x15_26 a0_0 a0_1 a0_2 l0_3 x251004_1 = some (r1, r2, r3, r4, r5, r6, r7)) ∧ Aside0 (kq ≤ kj21) ∧ Aside0 (Kd.V Kd.string 9 wc w.heap.size (fun k_ => ((P0_3_ k_ ∨ P0_4_ k_) ∨ w.heap.size ≤ k_) ∧ k_ ≠ gb250 ∧ k_ ≠ gb251) (.slice A0_3 l0_3.length c0_3) l0_3) ∧ Aside0 (Kd.V k39 39 wc w.heap.size (fun k_ => ((P0_3_ k_ ∨ P0_4_ k_) ∨ w.heap.size ≤ k_) ∧ k_ ≠ gb250 ∧ k_ ≠ gb251) u251004 x251004_1) ∧ Aside0 (wc.heap[gb250]? = some (.cells #[.string a0_0, .string a0_1, .string a0_2, (.slice A0_3 l0_3.length c0_3), u251004] 25 (0, 0))) ∧ Aside0 (wc.heap[gb251]? = some (.cells #[.string x252000_1, .string x252001_1, .string x252002_1, (.slice none 0 0), (.slice none 0 0)] 25 (0, 0))) ∧ Aside0 (Below w.heap.size w wc))
             case first =>
              have H := HC27.out
              clear HC27
              by_cases c28 : x15_2.toList = ([] : List UInt8)
              ·rw [if_pos c28] at H
               have c28b0 : (x15_2.toList == ([] : List UInt8)) = true := beq_iff_eq.mpr c28
               have c28b1 : (x15_2.toList != ([] : List UInt8)) = false := bne_eq_false_iff_eq.mpr c28
               have c28b2 : x15_2.toList.isEmpty = true := List.isEmpty_iff.mpr c28
               clear c28
               (first | rw [c28b0] | rw [c28b1] | rw [c28b2] | (simp only [i64_w, i32_w]; rw [c28b0]) | skip)
               (try simp only [Bool.not_true, Bool.not_false])
               have H' := Aside0.mk H
               clear H
               go_wp2
               go_meet
               case rel => exact ⟨_, (x15_2), (by first | rfl | (simp; done) | (simp [*]; done)), H', ⟨by have := HK1.out; have := HK2.out; have := HJ21.out; first | omega | exact Nat.le_refl _⟩, ⟨by (with_reducible repeat (first | apply Kd.V_alloc | apply Kd.V_drewN | apply Kd.V_drew)); exact HO_251003.out⟩, ⟨by (with_reducible repeat (first | apply Kd.V_alloc | apply Kd.V_drewN | apply Kd.V_drew)); exact HO_251004.out⟩, ⟨by (with_reducible repeat (first | refine blk_drewN ?_ _ | refine blk_drew ?_ | refine blk_alloc ?_ _)); exact BK250.out⟩, ⟨by (with_reducible repeat (first | refine blk_drewN ?_ _ | refine blk_drew ?_ | refine blk_alloc ?_ _)); exact BK251.out⟩, ⟨by repeat (first | (with_reducible first | exact HB.out | apply below_alloc | apply pw_below_drewN | apply below_drew1 | refine below_set ?_ GE250.out | refine below_set ?_ GE251.out) | exact HB.out)⟩⟩
              ·rw [if_neg c28] at H
               have c28b0 : (x15_2.toList == ([] : List UInt8)) = false := beq_eq_false_iff_ne.mpr c28
               have c28b1 : (x15_2.toList != ([] : List UInt8)) = true := bne_iff_ne.mpr c28
               have c28b2 : x15_2.toList.isEmpty = false := List.isEmpty_eq_false_iff.mpr c28
               (first | rw [c28b0] | rw [c28b1] | rw [c28b2] | (simp only [i64_w, i32_w]; rw [c28b0]) | skip)
               (try simp only [Bool.not_true, Bool.not_false])
               by_cases c29 : x15_2.size + 1 ≤ 9223372036854775807
               ·rw [if_pos c29] at H
                have c29b0 := eq_true c29
                have c29b1 : decide (x15_2.size + 1 ≤ 9223372036854775807) = true := decide_eq_true c29
                try have c29b2 : (9223372036854775807 < x15_2.size + 1) = False := eq_false (Nat.not_lt.2 c29)
                (try (have c29b3 := c29b2; simp only [ByteArray.size_append, sz1_, sz2_, sz3_] at c29b3))
                have H' := Aside0.mk H
                clear H
                go_wp2
                go_meet
                case rel => exact ⟨_, (x15_2 ++ (⟨#[45]⟩ : ByteArray)), (by first | rfl | (simp; done) | (simp [*]; done)), H', ⟨by have := HK1.out; have := HK2.out; have := HJ21.out; first | omega | exact Nat.le_refl _⟩, ⟨by (with_reducible repeat (first | apply Kd.V_alloc | apply Kd.V_drewN | apply Kd.V_drew)); exact HO_251003.out⟩, ⟨by (with_reducible repeat (first | apply Kd.V_alloc | apply Kd.V_drewN | apply Kd.V_drew)); exact HO_251004.out⟩, ⟨by (with_reducible repeat (first | refine blk_drewN ?_ _ | refine blk_drew ?_ | refine blk_alloc ?_ _)); exact BK250.out⟩, ⟨by (with_reducible repeat (first | refine blk_drewN ?_ _ | refine blk_drew ?_ | refine blk_alloc ?_ _)); exact BK251.out⟩, ⟨by repeat (first | (with_reducible first | exact HB.out | apply below_alloc | apply pw_below_drewN | apply below_drew1 | refine below_set ?_ GE250.out | refine below_set ?_ GE251.out) | exact HB.out)⟩⟩
               ·rw [if_neg c29] at H
                exact absurd H (by simp)
             case rest =>
              clear HC27
              obtain ⟨kq, x15_26, rfl, HA, HJ26, HO_251003, HO_251004, BK250, BK251, HB⟩ := hcut
              cases kq with
              | zero => exact absurd HA.out (by simp [idiomref07_keys.j3])
              | succ kj26 =>
               have H := HA.out
               clear HA
               simp only [idiomref07_keys.j3] at H
               by_cases c30 : 0 ≤ x3_2
               ·rw [if_pos c30] at H
                have c30b0 : decide (0 ≤ x3_2) = true := decide_eq_true c30
                clear c30
                by_cases c31 : x3_2 < (l1.length : Int)
                ·rw [if_pos c31] at H
                 have c31b0 : decide (x3_2 < (l1.length : Int)) = true := decide_eq_true c31
                 clear c31
                 replace H := Option.bind_eq_some_iff.mp H
                 obtain ⟨t261, A320, H⟩ := H
                 try dsimp only at H
                 have A32 := Aside0.mk A320
                 clear A320
                 by_cases c33 : x15_26.size + t261.size ≤ 9223372036854775807
                 ·rw [if_pos c33] at H
                  have c33b0 := eq_true c33
                  have c33b1 : decide (x15_26.size + t261.size ≤ 9223372036854775807) = true := decide_eq_true c33
                  try have c33b2 : (9223372036854775807 < x15_26.size + t261.size) = False := eq_false (Nat.not_lt.2 c33)
                  (try (have c33b3 := c33b2; simp only [ByteArray.size_append, sz1_, sz2_, sz3_] at c33b3))
                  have H' := Aside0.mk H
                  clear H
                  have p260 : 0 ≤ (x3_2 : Int) := of_decide_eq_true (by first | (with_reducible assumption) | assumption)
                  have q260 : x3_2 < (l1.length : Int) := of_decide_eq_true (by first | (with_reducible assumption) | assumption)
                  obtain ⟨ad260, e260, hx260_0⟩ := Kd.at_string HR1.out x3_2 p260 q260
                  obtain rfl : ad252 = ad260 := (by injection e260)
                  replace hx260_0 := (HB.out.cell (World.block_lt_of_cell? w _ hx260_0)).trans hx260_0
                  replace p260 := eq_true p260
                  replace q260 := eq_true q260
                  go_wp2_with (first | ((with_reducible refine gate_callee (f := 29) rfl ?_); refine gb_ (some 72) Tryz.func29 #[.string (rdOf ByteArray.empty l1 x3_2)] ?_; (with_reducible refine (idiomref07_Small.calls (rdOf ByteArray.empty l1 x3_2) t261 _ A32.out).mono ?_); rintro e w34 ⟨rfl, hb⟩; refine ⟨_, rfl, ?_⟩; replace HO_251003 := Aside0.mk (Kd.V_below (va_ HO_251003) hb); replace HO_251004 := Aside0.mk (Kd.V_below (va_ HO_251004) hb); replace BK250 := Aside0.mk (blk_below (g := gb250) (o := .cells #[.string a0_0, .string a0_1, .string a0_2, .slice A0_3 l0_3.length c0_3, u251004] 25 (0, 0)) (bk_ BK250) hb); replace BK251 := Aside0.mk (blk_below (g := gb251) (o := .cells #[.string x252000_1, .string x252001_1, .string x252002_1, .slice none 0 0, .slice none 0 0] 25 (0, 0)) (bk_ BK251) hb); replace HB := Aside0.mk (below_step (by repeat (first | (with_reducible first | exact HB.out | apply below_alloc | apply pw_below_drewN | apply below_drew1 | refine below_set ?_ GE250.out | refine below_set ?_ GE251.out) | exact HB.out)) hb); (try clear hb); (try clear hb2); (try clear hk); (try clear hi)))
                  go_roundg kj26
                  case measure => have := HK1.out; have := HK2.out; have := HJ21.out; have := HJ26.out; omega
                  case rel => exact ⟨(wrap64 (x3_2 + 1)), (x15_26 ++ t261), (by first | rfl | (simp; done) | (simp [*]; done)), (by first | rfl | (simp; done) | (simp [*]; done)), H', ⟨by have := HK1.out; have := HK2.out; have := HJ21.out; have := HJ26.out; omega⟩, ⟨by (with_reducible repeat (first | apply Kd.V_alloc | apply Kd.V_drewN | apply Kd.V_drew)); exact HO_251003.out⟩, ⟨by (with_reducible repeat (first | apply Kd.V_alloc | apply Kd.V_drewN | apply Kd.V_drew)); exact HO_251004.out⟩, ⟨by (with_reducible repeat (first | refine blk_drewN ?_ _ | refine blk_drew ?_ | refine blk_alloc ?_ _)); exact BK250.out⟩, ⟨by (with_reducible repeat (first | refine blk_drewN ?_ _ | refine blk_drew ?_ | refine blk_alloc ?_ _)); exact BK251.out⟩, ⟨by repeat (first | (with_reducible first | exact HB.out | apply below_alloc | apply pw_below_drewN | apply below_drew1 | refine below_set ?_ GE250.out | refine below_set ?_ GE251.out) | exact HB.out)⟩⟩
                 ·rw [if_neg c33] at H
                  exact absurd H (by simp)
                ·rw [if_neg c31] at H
                 exact absurd H (by simp)
               ·rw [if_neg c30] at H
                exact absurd H (by simp)
            ·replace c26 := Bool.eq_false_iff.mpr c26
             subst c26
             have H1 : (if x15_2.toList = ([116, 114, 117, 101] : List UInt8) then (idiomref07_keys.j4 kj21 l1 l2 x3_2 t256 (rd l2 x3_1) (⟨#[]⟩ : ByteArray) a0_0 a0_1 a0_2 l0_3 x251004_1) else (idiomref07_keys.j4 kj21 l1 l2 x3_2 t256 (rd l2 x3_1) x15_2 a0_0 a0_1 a0_2 l0_3 x251004_1)) = some (r1, r2, r3, r4, r5, r6, r7) := by rw [if_neg (show ¬ (false = true) by decide)] at H; exact H
             clear H
             have H := H1
             clear H1
             have HC35 := Aside0.mk H
             clear H
             go_upto_if 75 with (fail)
             go_cut [15] (fun v15 wc => ∃ (kq : Nat) (x15_34 : ByteArray), v15 = .string x15_34 ∧ Aside0 (idiomref07_keys.j4 kq l1 l2 x3_2 t256 (rd l2 x3_1) x15_34 a0_0 a0_1 a0_2 l0_3 x251004_1 = some (r1, r2, r3, r4, r5, r6, r7)) ∧ Aside0 (kq ≤ kj21) ∧ Aside0 (Kd.V Kd.string 9 wc w.heap.size (fun k_ => ((P0_3_ k_ ∨ P0_4_ k_) ∨ w.heap.size ≤ k_) ∧ k_ ≠ gb250 ∧ k_ ≠ gb251) (.slice A0_3 l0_3.length c0_3) l0_3) ∧ Aside0 (Kd.V k39 39 wc w.heap.size (fun k_ => ((P0_3_ k_ ∨ P0_4_ k_) ∨ w.heap.size ≤ k_) ∧ k_ ≠ gb250 ∧ k_ ≠ gb251) u251004 x251004_1) ∧ Aside0 (wc.heap[gb250]? = some (.cells #[.string a0_0, .string a0_1, .string a0_2, (.slice A0_3 l0_3.length c0_3), u251004] 25 (0, 0))) ∧ Aside0 (wc.heap[gb251]? = some (.cells #[.string x252000_1, .string x252001_1, .string x252002_1, (.slice none 0 0), (.slice none 0 0)] 25 (0, 0))) ∧ Aside0 (Below w.heap.size w wc))
             case first =>
              have H := HC35.out
              clear HC35
              by_cases c36 : x15_2.toList = ([116, 114, 117, 101] : List UInt8)
              ·rw [if_pos c36] at H
               have c36b0 : (x15_2.toList == ([116, 114, 117, 101] : List UInt8)) = true := beq_iff_eq.mpr c36
               have c36b1 : (x15_2.toList != ([116, 114, 117, 101] : List UInt8)) = false := bne_eq_false_iff_eq.mpr c36
               clear c36
               (first | rw [c36b0] | rw [c36b1] | rw [c36b2] | (simp only [i64_w, i32_w]; rw [c36b0]) | skip)
               (try simp only [Bool.not_true, Bool.not_false])
               have H' := Aside0.mk H
               clear H
               go_wp2
               go_meet
               case rel => exact ⟨_, ((⟨#[]⟩ : ByteArray)), (by first | rfl | (simp; done) | (simp [*]; done)), H', ⟨by have := HK1.out; have := HK2.out; have := HJ21.out; first | omega | exact Nat.le_refl _⟩, ⟨by (with_reducible repeat (first | apply Kd.V_alloc | apply Kd.V_drewN | apply Kd.V_drew)); exact HO_251003.out⟩, ⟨by (with_reducible repeat (first | apply Kd.V_alloc | apply Kd.V_drewN | apply Kd.V_drew)); exact HO_251004.out⟩, ⟨by (with_reducible repeat (first | refine blk_drewN ?_ _ | refine blk_drew ?_ | refine blk_alloc ?_ _)); exact BK250.out⟩, ⟨by (with_reducible repeat (first | refine blk_drewN ?_ _ | refine blk_drew ?_ | refine blk_alloc ?_ _)); exact BK251.out⟩, ⟨by repeat (first | (with_reducible first | exact HB.out | apply below_alloc | apply pw_below_drewN | apply below_drew1 | refine below_set ?_ GE250.out | refine below_set ?_ GE251.out) | exact HB.out)⟩⟩
              ·rw [if_neg c36] at H
               have c36b0 : (x15_2.toList == ([116, 114, 117, 101] : List UInt8)) = false := beq_eq_false_iff_ne.mpr c36
               have c36b1 : (x15_2.toList != ([116, 114, 117, 101] : List UInt8)) = true := bne_iff_ne.mpr c36
               (first | rw [c36b0] | rw [c36b1] | rw [c36b2] | (simp only [i64_w, i32_w]; rw [c36b0]) | skip)
               (try simp only [Bool.not_true, Bool.not_false])
               have H' := Aside0.mk H
               clear H
               go_wp2
               go_meet
               case rel => exact ⟨_, (x15_2), (by first | rfl | (simp; done) | (simp [*]; done)), H', ⟨by have := HK1.out; have := HK2.out; have := HJ21.out; first | omega | exact Nat.le_refl _⟩, ⟨by (with_reducible repeat (first | apply Kd.V_alloc | apply Kd.V_drewN | apply Kd.V_drew)); exact HO_251003.out⟩, ⟨by (with_reducible repeat (first | apply Kd.V_alloc | apply Kd.V_drewN | apply Kd.V_drew)); exact HO_251004.out⟩, ⟨by (with_reducible repeat (first | refine blk_drewN ?_ _ | refine blk_drew ?_ | refine blk_alloc ?_ _)); exact BK250.out⟩, ⟨by (with_reducible repeat (first | refine blk_drewN ?_ _ | refine blk_drew ?_ | refine blk_alloc ?_ _)); exact BK251.out⟩, ⟨by repeat (first | (with_reducible first | exact HB.out | apply below_alloc | apply pw_below_drewN | apply below_drew1 | refine below_set ?_ GE250.out | refine below_set ?_ GE251.out) | exact HB.out)⟩⟩
             case rest =>
              clear HC35
              obtain ⟨kq, x15_34, rfl, HA, HJ34, HO_251003, HO_251004, BK250, BK251, HB⟩ := hcut
              cases kq with
              | zero => exact absurd HA.out (by simp [idiomref07_keys.j4])
              | succ kj34 =>
               have H := HA.out
               clear HA
               simp only [idiomref07_keys.j4] at H
               replace H := Option.bind_eq_some_iff.mp H
               obtain ⟨⟨t262, t265⟩, A370, H⟩ := H
               try dsimp only at H
               have A37 := Aside0.mk A370
               clear A370
               by_cases c38 : t265 = true
               ·subst c38
                have H1 : (if (t262.length : Int) > 64 then (some (a0_0, a0_1, a0_2, l0_3, x251004_1, (rd l2 x3_1), 5)) else (idiomref07_keys.l0 kj34 l1 l2 x3_2 a0_0 a0_1 a0_2 l0_3 t262)) = some (r1, r2, r3, r4, r5, r6, r7) := by rw [if_pos rfl] at H; exact H
                clear H
                have H := H1
                clear H1
                by_cases c39 : (t262.length : Int) > 64
                ·rw [if_pos c39] at H
                 have c39b0 : decide (64 < (t262.length : Int)) = true := decide_eq_true c39
                 have c39b1 : decide (64 < t262.length) = true := decide_eq_true (by omega)
                 clear c39
                 simp only [Option.some.injEq, Prod.mk.injEq] at H
                 obtain ⟨rfl, rfl, rfl, rfl, rfl, rfl, rfl⟩ := H
                 have hnb40 := NB250_251.out
                 have hnc40 := NB251_250.out
                 have hcz41_0 : wc.cell? ⟨gb250, 0, none⟩ = some (.string a0_0) := (blk_cell BK250.out 0).trans rfl
                 have hcz41_1 : wc.cell? ⟨gb250, 1, none⟩ = some (.string a0_1) := (blk_cell BK250.out 1).trans rfl
                 have hcz41_2 : wc.cell? ⟨gb250, 2, none⟩ = some (.string a0_2) := (blk_cell BK250.out 2).trans rfl
                 have hcz41_3 : wc.cell? ⟨gb250, 3, none⟩ = some (.slice A0_3 l0_3.length c0_3) := (blk_cell BK250.out 3).trans rfl
                 have hcz41_4 : wc.cell? ⟨gb250, 4, none⟩ = some (u251004) := (blk_cell BK250.out 4).trans rfl
                 have hfz41_0 := blk_frozen BK250.out 0
                 have hfz41_1 := blk_frozen BK250.out 1
                 have hfz41_2 := blk_frozen BK250.out 2
                 have hfz41_3 := blk_frozen BK250.out 3
                 have hfz41_4 := blk_frozen BK250.out 4
                 obtain ⟨Ao42, co42, eo42⟩ := Kd.V_slice HO_251004.out
                 subst eo42
                 go_wp2_with (first | ((with_reducible refine gate_callee (f := 110) rfl ?_); refine gb_ (some 82) Tryz.func110 #[.slice Ao42 x251004_1.length co42, .agg #[.string t256, .string x15_34]] ?_; (with_reducible refine (idiomref07_putKey.calls kj34 (fun k_ => (((P0_3_ k_ ∨ P0_4_ k_) ∨ w.heap.size ≤ k_) ∧ (k_ ≠ gb250 ∧ k_ ≠ gb251))) _ _ x251004_1 t256 x15_34 t262 true _ ?side1 A37.out).mono ?_); (case side1 => exact HO_251004.out); rintro e w43 ⟨v263, rfl, ho0, hb⟩; refine ⟨_, rfl, ?_⟩; replace HO_251003 := Aside0.mk (Kd.V_below (va_ HO_251003) hb); replace HO_251004 := Aside0.mk (Kd.V_below (va_ HO_251004) hb); have HO264 := Aside0.mk (Kd.V_lower (Kd.V_mono (ok' := fun k_ => ((P0_3_ k_ ∨ P0_4_ k_) ∨ w.heap.size ≤ k_) ∧ k_ ≠ gb250 ∧ k_ ≠ gb251) ho0 (fun k_ hk_ => ⟨Or.elim hk_ (fun hs_ => hs_.1) (fun hn_ => (.inr (Nat.le_trans (below_size (by repeat (first | (with_reducible first | exact HB.out | apply below_alloc | apply pw_below_drewN | apply below_drew1 | refine below_set ?_ GE250.out | refine below_set ?_ GE251.out) | exact HB.out))) hn_))), Or.elim hk_ (fun hs_ => hs_.2.1) (fun hn_ => (Kd.freshB (g := gb250) (o := .cells #[.string a0_0, .string a0_1, .string a0_2, .slice A0_3 l0_3.length c0_3, .slice Ao42 x251004_1.length co42] 25 (0, 0)) (bk_ BK250) k_ hn_)), Or.elim hk_ (fun hs_ => hs_.2.2) (fun hn_ => (Kd.freshB (g := gb251) (o := .cells #[.string x252000_1, .string x252001_1, .string x252002_1, .slice none 0 0, .slice none 0 0] 25 (0, 0)) (bk_ BK251) k_ hn_))⟩)) (below_size (by repeat (first | (with_reducible first | exact HB.out | apply below_alloc | apply pw_below_drewN | apply below_drew1 | refine below_set ?_ GE250.out | refine below_set ?_ GE251.out) | exact HB.out)))); replace BK250 := Aside0.mk (blk_below (g := gb250) (o := .cells #[.string a0_0, .string a0_1, .string a0_2, .slice A0_3 l0_3.length c0_3, .slice Ao42 x251004_1.length co42] 25 (0, 0)) (bk_ BK250) hb); replace BK251 := Aside0.mk (blk_below (g := gb251) (o := .cells #[.string x252000_1, .string x252001_1, .string x252002_1, .slice none 0 0, .slice none 0 0] 25 (0, 0)) (bk_ BK251) hb); replace HB := Aside0.mk (below_step (by repeat (first | (with_reducible first | exact HB.out | apply below_alloc | apply pw_below_drewN | apply below_drew1 | refine below_set ?_ GE250.out | refine below_set ?_ GE251.out) | exact HB.out)) hb); (try clear hb); (try clear hb2); (try clear hk); (try clear hi); (try clear ho0); obtain ⟨Ao44, co44, eo44⟩ := Kd.V_slice HO264.out; subst eo44; have hcz45_0 : w43.cell? ⟨gb250, 0, none⟩ = some (.string a0_0) := (blk_cell BK250.out 0).trans rfl; have hcz45_1 : w43.cell? ⟨gb250, 1, none⟩ = some (.string a0_1) := (blk_cell BK250.out 1).trans rfl; have hcz45_2 : w43.cell? ⟨gb250, 2, none⟩ = some (.string a0_2) := (blk_cell BK250.out 2).trans rfl; have hcz45_3 : w43.cell? ⟨gb250, 3, none⟩ = some (.slice A0_3 l0_3.length c0_3) := (blk_cell BK250.out 3).trans rfl; have hcz45_4 : w43.cell? ⟨gb250, 4, none⟩ = some (.slice Ao42 x251004_1.length co42) := (blk_cell BK250.out 4).trans rfl; have hfz45_0 := blk_frozen BK250.out 0; have hfz45_1 := blk_frozen BK250.out 1; have hfz45_2 := blk_frozen BK250.out 2; have hfz45_3 := blk_frozen BK250.out 3; have hfz45_4 := blk_frozen BK250.out 4; have hcz46_0 : w43.cell? ⟨gb251, 0, none⟩ = some (.string x252000_1) := (blk_cell BK251.out 0).trans rfl; have hcz46_1 : w43.cell? ⟨gb251, 1, none⟩ = some (.string x252001_1) := (blk_cell BK251.out 1).trans rfl; have hcz46_2 : w43.cell? ⟨gb251, 2, none⟩ = some (.string x252002_1) := (blk_cell BK251.out 2).trans rfl; have hcz46_3 : w43.cell? ⟨gb251, 3, none⟩ = some (.slice none 0 0) := (blk_cell BK251.out 3).trans rfl; have hcz46_4 : w43.cell? ⟨gb251, 4, none⟩ = some (.slice none 0 0) := (blk_cell BK251.out 4).trans rfl; have hfz46_0 := blk_frozen BK251.out 0; have hfz46_1 := blk_frozen BK251.out 1; have hfz46_2 := blk_frozen BK251.out 2; have hfz46_3 := blk_frozen BK251.out 3; have hfz46_4 := blk_frozen BK251.out 4))
                 refine bodyPost_ret (results_ctt rfl _ _ gb251 25 #[.string a0_0, .string a0_1, .string a0_2, .slice A0_3 l0_3.length c0_3, .slice Ao42 x251004_1.length co42] (0, 0) _ rfl (by (with_reducible repeat (first | refine blk_drewN ?_ _ | refine blk_drew ?_ | refine blk_alloc ?_ _)); refine blk_put (cs := #[.string a0_0, .string a0_1, .string a0_2, .slice A0_3 l0_3.length c0_3, .slice none 0 0]) ?_ 4 _ rfl; (with_reducible repeat (first | refine blk_drewN ?_ _ | refine blk_drew ?_ | refine blk_alloc ?_ _)); refine blk_put (cs := #[.string a0_0, .string a0_1, .string a0_2, .slice none 0 0, .slice none 0 0]) ?_ 3 _ (by first | rfl | simp); (with_reducible repeat (first | refine blk_drewN ?_ _ | refine blk_drew ?_ | refine blk_alloc ?_ _)); refine blk_put (cs := #[.string a0_0, .string a0_1, .string x252002_1, .slice none 0 0, .slice none 0 0]) ?_ 2 _ rfl; (with_reducible repeat (first | refine blk_drewN ?_ _ | refine blk_drew ?_ | refine blk_alloc ?_ _)); refine blk_put (cs := #[.string a0_0, .string x252001_1, .string x252002_1, .slice none 0 0, .slice none 0 0]) ?_ 1 _ rfl; (with_reducible repeat (first | refine blk_drewN ?_ _ | refine blk_drew ?_ | refine blk_alloc ?_ _)); refine blk_put (cs := #[.string x252000_1, .string x252001_1, .string x252002_1, .slice none 0 0, .slice none 0 0]) ?_ 0 _ rfl; (with_reducible repeat (first | refine blk_drewN ?_ _ | refine blk_drew ?_ | refine blk_alloc ?_ _)); exact BK251.out) Tryz.underlying25 rfl (by kernel_rfl)) rfl ?_
                 exact ⟨_, _, by first | rfl | (simp [errW_none, errW_some] <;> rfl) | (simp [*, errW_none, errW_some] <;> rfl), by (with_reducible repeat (first | apply Kd.V_alloc | apply Kd.V_drewN | apply Kd.V_drew)); exact Kd.V_mono (Kd.V_far (p := ⟨gb251, 4, none⟩) (Kd.V_far (p := ⟨gb251, 3, none⟩) (Kd.V_far (p := ⟨gb251, 2, none⟩) (Kd.V_far (p := ⟨gb251, 1, none⟩) (Kd.V_far (p := ⟨gb251, 0, none⟩) (Kd.V_mono HO_251003.out (fun k_ hk => (⟨hk, hk.2.2⟩ : _ ∧ k_ ≠ gb251))) (fun _ hk => hk.2) (.string a0_0)) (fun _ hk => hk.2) (.string a0_1)) (fun _ hk => hk.2) (.string a0_2)) (fun _ hk => hk.2) (.slice A0_3 l0_3.length c0_3)) (fun _ hk => hk.2) (.slice Ao42 x251004_1.length co42)) (fun _ hk => hk.1.1), by (with_reducible repeat (first | apply Kd.V_alloc | apply Kd.V_drewN | apply Kd.V_drew)); exact Kd.V_mono (Kd.V_far (p := ⟨gb251, 4, none⟩) (Kd.V_far (p := ⟨gb251, 3, none⟩) (Kd.V_far (p := ⟨gb251, 2, none⟩) (Kd.V_far (p := ⟨gb251, 1, none⟩) (Kd.V_far (p := ⟨gb251, 0, none⟩) (Kd.V_mono HO_251004.out (fun k_ hk => (⟨hk, hk.2.2⟩ : _ ∧ k_ ≠ gb251))) (fun _ hk => hk.2) (.string a0_0)) (fun _ hk => hk.2) (.string a0_1)) (fun _ hk => hk.2) (.string a0_2)) (fun _ hk => hk.2) (.slice A0_3 l0_3.length c0_3)) (fun _ hk => hk.2) (.slice Ao42 x251004_1.length co42)) (fun _ hk => hk.1.1), by repeat (first | (with_reducible first | exact HB.out | apply below_alloc | apply pw_below_drewN | apply below_drew1 | refine below_set ?_ GE250.out | refine below_set ?_ GE251.out) | exact HB.out)⟩
                ·rw [if_neg c39] at H
                 have c39b0 : decide (64 < (t262.length : Int)) = false := decide_eq_false c39
                 have c39b1 : decide (64 < t262.length) = false := decide_eq_false (by omega)
                 clear c39
                 have H' := Aside0.mk H
                 clear H
                 have hnb47 := NB250_251.out
                 have hnc47 := NB251_250.out
                 have hcz48_0 : wc.cell? ⟨gb250, 0, none⟩ = some (.string a0_0) := (blk_cell BK250.out 0).trans rfl
                 have hcz48_1 : wc.cell? ⟨gb250, 1, none⟩ = some (.string a0_1) := (blk_cell BK250.out 1).trans rfl
                 have hcz48_2 : wc.cell? ⟨gb250, 2, none⟩ = some (.string a0_2) := (blk_cell BK250.out 2).trans rfl
                 have hcz48_3 : wc.cell? ⟨gb250, 3, none⟩ = some (.slice A0_3 l0_3.length c0_3) := (blk_cell BK250.out 3).trans rfl
                 have hcz48_4 : wc.cell? ⟨gb250, 4, none⟩ = some (u251004) := (blk_cell BK250.out 4).trans rfl
                 have hfz48_0 := blk_frozen BK250.out 0
                 have hfz48_1 := blk_frozen BK250.out 1
                 have hfz48_2 := blk_frozen BK250.out 2
                 have hfz48_3 := blk_frozen BK250.out 3
                 have hfz48_4 := blk_frozen BK250.out 4
                 obtain ⟨Ao49, co49, eo49⟩ := Kd.V_slice HO_251004.out
                 subst eo49
                 go_wp2_with (first | ((with_reducible refine gate_callee (f := 110) rfl ?_); refine gb_ (some 82) Tryz.func110 #[.slice Ao49 x251004_1.length co49, .agg #[.string t256, .string x15_34]] ?_; (with_reducible refine (idiomref07_putKey.calls kj34 (fun k_ => (((P0_3_ k_ ∨ P0_4_ k_) ∨ w.heap.size ≤ k_) ∧ (k_ ≠ gb250 ∧ k_ ≠ gb251))) _ _ x251004_1 t256 x15_34 t262 true _ ?side1 A37.out).mono ?_); (case side1 => exact HO_251004.out); rintro e w50 ⟨v263, rfl, ho0, hb⟩; refine ⟨_, rfl, ?_⟩; replace HO_251003 := Aside0.mk (Kd.V_below (va_ HO_251003) hb); replace HO_251004 := Aside0.mk (Kd.V_below (va_ HO_251004) hb); have HO264 := Aside0.mk (Kd.V_lower (Kd.V_mono (ok' := fun k_ => ((P0_3_ k_ ∨ P0_4_ k_) ∨ w.heap.size ≤ k_) ∧ k_ ≠ gb250 ∧ k_ ≠ gb251) ho0 (fun k_ hk_ => ⟨Or.elim hk_ (fun hs_ => hs_.1) (fun hn_ => (.inr (Nat.le_trans (below_size (by repeat (first | (with_reducible first | exact HB.out | apply below_alloc | apply pw_below_drewN | apply below_drew1 | refine below_set ?_ GE250.out | refine below_set ?_ GE251.out) | exact HB.out))) hn_))), Or.elim hk_ (fun hs_ => hs_.2.1) (fun hn_ => (Kd.freshB (g := gb250) (o := .cells #[.string a0_0, .string a0_1, .string a0_2, .slice A0_3 l0_3.length c0_3, .slice Ao49 x251004_1.length co49] 25 (0, 0)) (bk_ BK250) k_ hn_)), Or.elim hk_ (fun hs_ => hs_.2.2) (fun hn_ => (Kd.freshB (g := gb251) (o := .cells #[.string x252000_1, .string x252001_1, .string x252002_1, .slice none 0 0, .slice none 0 0] 25 (0, 0)) (bk_ BK251) k_ hn_))⟩)) (below_size (by repeat (first | (with_reducible first | exact HB.out | apply below_alloc | apply pw_below_drewN | apply below_drew1 | refine below_set ?_ GE250.out | refine below_set ?_ GE251.out) | exact HB.out)))); replace BK250 := Aside0.mk (blk_below (g := gb250) (o := .cells #[.string a0_0, .string a0_1, .string a0_2, .slice A0_3 l0_3.length c0_3, .slice Ao49 x251004_1.length co49] 25 (0, 0)) (bk_ BK250) hb); replace BK251 := Aside0.mk (blk_below (g := gb251) (o := .cells #[.string x252000_1, .string x252001_1, .string x252002_1, .slice none 0 0, .slice none 0 0] 25 (0, 0)) (bk_ BK251) hb); replace HB := Aside0.mk (below_step (by repeat (first | (with_reducible first | exact HB.out | apply below_alloc | apply pw_below_drewN | apply below_drew1 | refine below_set ?_ GE250.out | refine below_set ?_ GE251.out) | exact HB.out)) hb); (try clear hb); (try clear hb2); (try clear hk); (try clear hi); (try clear ho0); obtain ⟨Ao51, co51, eo51⟩ := Kd.V_slice HO264.out; subst eo51; have hcz52_0 : w50.cell? ⟨gb250, 0, none⟩ = some (.string a0_0) := (blk_cell BK250.out 0).trans rfl; have hcz52_1 : w50.cell? ⟨gb250, 1, none⟩ = some (.string a0_1) := (blk_cell BK250.out 1).trans rfl; have hcz52_2 : w50.cell? ⟨gb250, 2, none⟩ = some (.string a0_2) := (blk_cell BK250.out 2).trans rfl; have hcz52_3 : w50.cell? ⟨gb250, 3, none⟩ = some (.slice A0_3 l0_3.length c0_3) := (blk_cell BK250.out 3).trans rfl; have hcz52_4 : w50.cell? ⟨gb250, 4, none⟩ = some (.slice Ao49 x251004_1.length co49) := (blk_cell BK250.out 4).trans rfl; have hfz52_0 := blk_frozen BK250.out 0; have hfz52_1 := blk_frozen BK250.out 1; have hfz52_2 := blk_frozen BK250.out 2; have hfz52_3 := blk_frozen BK250.out 3; have hfz52_4 := blk_frozen BK250.out 4))
                 go_roundg kj34
                 case measure => have := HK1.out; have := HK2.out; have := HJ21.out; have := HJ34.out; omega
                 case rel => exact ⟨(x3_2), (t262), (x252000_1), (x252001_1), (x252002_1), (.slice Ao51 t262.length co51), (by first | rfl | (simp; done) | (simp [*]; done)), H', ⟨by have := HK1.out; have := HK2.out; have := HJ21.out; have := HJ34.out; omega⟩, ⟨by (with_reducible repeat (first | apply Kd.V_alloc | apply Kd.V_drewN | apply Kd.V_drew)); exact Kd.V_mono (Kd.V_far (p := ⟨gb250, 4, none⟩) (Kd.V_mono HO_251003.out (fun k_ hk => (⟨hk, hk.2.1⟩ : _ ∧ k_ ≠ gb250))) (fun _ hk => hk.2) (.slice Ao51 t262.length co51)) (fun _ hk => ⟨hk.1.1, ⟨hk.1.2.1, hk.1.2.2⟩⟩)⟩, ⟨by (with_reducible repeat (first | apply Kd.V_alloc | apply Kd.V_drewN | apply Kd.V_drew)); exact Kd.V_mono (Kd.V_far (p := ⟨gb250, 4, none⟩) (Kd.V_mono HO264.out (fun k_ hk => (⟨hk, hk.2.1⟩ : _ ∧ k_ ≠ gb250))) (fun _ hk => hk.2) (.slice Ao51 t262.length co51)) (fun _ hk => ⟨hk.1.1, ⟨hk.1.2.1, hk.1.2.2⟩⟩)⟩, ⟨by (with_reducible repeat (first | refine blk_drewN ?_ _ | refine blk_drew ?_ | refine blk_alloc ?_ _)); refine blk_put (cs := #[.string a0_0, .string a0_1, .string a0_2, .slice A0_3 l0_3.length c0_3, .slice Ao49 x251004_1.length co49]) ?_ 4 _ rfl; (with_reducible repeat (first | refine blk_drewN ?_ _ | refine blk_drew ?_ | refine blk_alloc ?_ _)); exact BK250.out⟩, ⟨by (with_reducible repeat (first | refine blk_drewN ?_ _ | refine blk_drew ?_ | refine blk_alloc ?_ _)); refine blk_far ?_ NB251_250.out _; (with_reducible repeat (first | refine blk_drewN ?_ _ | refine blk_drew ?_ | refine blk_alloc ?_ _)); exact BK251.out⟩, ⟨by repeat (first | (with_reducible first | exact HB.out | apply below_alloc | apply pw_below_drewN | apply below_drew1 | refine below_set ?_ GE250.out | refine below_set ?_ GE251.out) | exact HB.out)⟩⟩
               ·replace c38 := Bool.eq_false_iff.mpr c38
                subst c38
                have H1 : (some (a0_0, a0_1, a0_2, l0_3, x251004_1, (rd l2 x3_1), 6)) = some (r1, r2, r3, r4, r5, r6, r7) := by rw [if_neg (show ¬ (false = true) by decide)] at H; exact H
                clear H
                have H := H1
                clear H1
                simp only [Option.some.injEq, Prod.mk.injEq] at H
                obtain ⟨rfl, rfl, rfl, rfl, rfl, rfl, rfl⟩ := H
                have hnb53 := NB250_251.out
                have hnc53 := NB251_250.out
                have hcz54_0 : wc.cell? ⟨gb250, 0, none⟩ = some (.string a0_0) := (blk_cell BK250.out 0).trans rfl
                have hcz54_1 : wc.cell? ⟨gb250, 1, none⟩ = some (.string a0_1) := (blk_cell BK250.out 1).trans rfl
                have hcz54_2 : wc.cell? ⟨gb250, 2, none⟩ = some (.string a0_2) := (blk_cell BK250.out 2).trans rfl
                have hcz54_3 : wc.cell? ⟨gb250, 3, none⟩ = some (.slice A0_3 l0_3.length c0_3) := (blk_cell BK250.out 3).trans rfl
                have hcz54_4 : wc.cell? ⟨gb250, 4, none⟩ = some (u251004) := (blk_cell BK250.out 4).trans rfl
                have hfz54_0 := blk_frozen BK250.out 0
                have hfz54_1 := blk_frozen BK250.out 1
                have hfz54_2 := blk_frozen BK250.out 2
                have hfz54_3 := blk_frozen BK250.out 3
                have hfz54_4 := blk_frozen BK250.out 4
                obtain ⟨Ao55, co55, eo55⟩ := Kd.V_slice HO_251004.out
                subst eo55
                go_wp2_with (first | ((with_reducible refine gate_callee (f := 110) rfl ?_); refine gb_ (some 82) Tryz.func110 #[.slice Ao55 x251004_1.length co55, .agg #[.string t256, .string x15_34]] ?_; (with_reducible refine (idiomref07_putKey.calls kj34 (fun k_ => (((P0_3_ k_ ∨ P0_4_ k_) ∨ w.heap.size ≤ k_) ∧ (k_ ≠ gb250 ∧ k_ ≠ gb251))) _ _ x251004_1 t256 x15_34 t262 false _ ?side1 A37.out).mono ?_); (case side1 => exact HO_251004.out); rintro e w56 ⟨v263, rfl, ho0, hb⟩; refine ⟨_, rfl, ?_⟩; replace HO_251003 := Aside0.mk (Kd.V_below (va_ HO_251003) hb); replace HO_251004 := Aside0.mk (Kd.V_below (va_ HO_251004) hb); have HO264 := Aside0.mk (Kd.V_lower (Kd.V_mono (ok' := fun k_ => ((P0_3_ k_ ∨ P0_4_ k_) ∨ w.heap.size ≤ k_) ∧ k_ ≠ gb250 ∧ k_ ≠ gb251) ho0 (fun k_ hk_ => ⟨Or.elim hk_ (fun hs_ => hs_.1) (fun hn_ => (.inr (Nat.le_trans (below_size (by repeat (first | (with_reducible first | exact HB.out | apply below_alloc | apply pw_below_drewN | apply below_drew1 | refine below_set ?_ GE250.out | refine below_set ?_ GE251.out) | exact HB.out))) hn_))), Or.elim hk_ (fun hs_ => hs_.2.1) (fun hn_ => (Kd.freshB (g := gb250) (o := .cells #[.string a0_0, .string a0_1, .string a0_2, .slice A0_3 l0_3.length c0_3, .slice Ao55 x251004_1.length co55] 25 (0, 0)) (bk_ BK250) k_ hn_)), Or.elim hk_ (fun hs_ => hs_.2.2) (fun hn_ => (Kd.freshB (g := gb251) (o := .cells #[.string x252000_1, .string x252001_1, .string x252002_1, .slice none 0 0, .slice none 0 0] 25 (0, 0)) (bk_ BK251) k_ hn_))⟩)) (below_size (by repeat (first | (with_reducible first | exact HB.out | apply below_alloc | apply pw_below_drewN | apply below_drew1 | refine below_set ?_ GE250.out | refine below_set ?_ GE251.out) | exact HB.out)))); replace BK250 := Aside0.mk (blk_below (g := gb250) (o := .cells #[.string a0_0, .string a0_1, .string a0_2, .slice A0_3 l0_3.length c0_3, .slice Ao55 x251004_1.length co55] 25 (0, 0)) (bk_ BK250) hb); replace BK251 := Aside0.mk (blk_below (g := gb251) (o := .cells #[.string x252000_1, .string x252001_1, .string x252002_1, .slice none 0 0, .slice none 0 0] 25 (0, 0)) (bk_ BK251) hb); replace HB := Aside0.mk (below_step (by repeat (first | (with_reducible first | exact HB.out | apply below_alloc | apply pw_below_drewN | apply below_drew1 | refine below_set ?_ GE250.out | refine below_set ?_ GE251.out) | exact HB.out)) hb); (try clear hb); (try clear hb2); (try clear hk); (try clear hi); (try clear ho0); have hcz57_0 : w56.cell? ⟨gb250, 0, none⟩ = some (.string a0_0) := (blk_cell BK250.out 0).trans rfl; have hcz57_1 : w56.cell? ⟨gb250, 1, none⟩ = some (.string a0_1) := (blk_cell BK250.out 1).trans rfl; have hcz57_2 : w56.cell? ⟨gb250, 2, none⟩ = some (.string a0_2) := (blk_cell BK250.out 2).trans rfl; have hcz57_3 : w56.cell? ⟨gb250, 3, none⟩ = some (.slice A0_3 l0_3.length c0_3) := (blk_cell BK250.out 3).trans rfl; have hcz57_4 : w56.cell? ⟨gb250, 4, none⟩ = some (.slice Ao55 x251004_1.length co55) := (blk_cell BK250.out 4).trans rfl; have hfz57_0 := blk_frozen BK250.out 0; have hfz57_1 := blk_frozen BK250.out 1; have hfz57_2 := blk_frozen BK250.out 2; have hfz57_3 := blk_frozen BK250.out 3; have hfz57_4 := blk_frozen BK250.out 4; have hcz58_0 : w56.cell? ⟨gb251, 0, none⟩ = some (.string x252000_1) := (blk_cell BK251.out 0).trans rfl; have hcz58_1 : w56.cell? ⟨gb251, 1, none⟩ = some (.string x252001_1) := (blk_cell BK251.out 1).trans rfl; have hcz58_2 : w56.cell? ⟨gb251, 2, none⟩ = some (.string x252002_1) := (blk_cell BK251.out 2).trans rfl; have hcz58_3 : w56.cell? ⟨gb251, 3, none⟩ = some (.slice none 0 0) := (blk_cell BK251.out 3).trans rfl; have hcz58_4 : w56.cell? ⟨gb251, 4, none⟩ = some (.slice none 0 0) := (blk_cell BK251.out 4).trans rfl; have hfz58_0 := blk_frozen BK251.out 0; have hfz58_1 := blk_frozen BK251.out 1; have hfz58_2 := blk_frozen BK251.out 2; have hfz58_3 := blk_frozen BK251.out 3; have hfz58_4 := blk_frozen BK251.out 4))
                refine bodyPost_ret (results_ctt rfl _ _ gb251 25 #[.string a0_0, .string a0_1, .string a0_2, .slice A0_3 l0_3.length c0_3, .slice Ao55 x251004_1.length co55] (0, 0) _ rfl (by (with_reducible repeat (first | refine blk_drewN ?_ _ | refine blk_drew ?_ | refine blk_alloc ?_ _)); refine blk_put (cs := #[.string a0_0, .string a0_1, .string a0_2, .slice A0_3 l0_3.length c0_3, .slice none 0 0]) ?_ 4 _ rfl; (with_reducible repeat (first | refine blk_drewN ?_ _ | refine blk_drew ?_ | refine blk_alloc ?_ _)); refine blk_put (cs := #[.string a0_0, .string a0_1, .string a0_2, .slice none 0 0, .slice none 0 0]) ?_ 3 _ (by first | rfl | simp); (with_reducible repeat (first | refine blk_drewN ?_ _ | refine blk_drew ?_ | refine blk_alloc ?_ _)); refine blk_put (cs := #[.string a0_0, .string a0_1, .string x252002_1, .slice none 0 0, .slice none 0 0]) ?_ 2 _ rfl; (with_reducible repeat (first | refine blk_drewN ?_ _ | refine blk_drew ?_ | refine blk_alloc ?_ _)); refine blk_put (cs := #[.string a0_0, .string x252001_1, .string x252002_1, .slice none 0 0, .slice none 0 0]) ?_ 1 _ rfl; (with_reducible repeat (first | refine blk_drewN ?_ _ | refine blk_drew ?_ | refine blk_alloc ?_ _)); refine blk_put (cs := #[.string x252000_1, .string x252001_1, .string x252002_1, .slice none 0 0, .slice none 0 0]) ?_ 0 _ rfl; (with_reducible repeat (first | refine blk_drewN ?_ _ | refine blk_drew ?_ | refine blk_alloc ?_ _)); exact BK251.out) Tryz.underlying25 rfl (by kernel_rfl)) rfl ?_
                exact ⟨_, _, by first | rfl | (simp [errW_none, errW_some] <;> rfl) | (simp [*, errW_none, errW_some] <;> rfl), by (with_reducible repeat (first | apply Kd.V_alloc | apply Kd.V_drewN | apply Kd.V_drew)); exact Kd.V_mono (Kd.V_far (p := ⟨gb251, 4, none⟩) (Kd.V_far (p := ⟨gb251, 3, none⟩) (Kd.V_far (p := ⟨gb251, 2, none⟩) (Kd.V_far (p := ⟨gb251, 1, none⟩) (Kd.V_far (p := ⟨gb251, 0, none⟩) (Kd.V_mono HO_251003.out (fun k_ hk => (⟨hk, hk.2.2⟩ : _ ∧ k_ ≠ gb251))) (fun _ hk => hk.2) (.string a0_0)) (fun _ hk => hk.2) (.string a0_1)) (fun _ hk => hk.2) (.string a0_2)) (fun _ hk => hk.2) (.slice A0_3 l0_3.length c0_3)) (fun _ hk => hk.2) (.slice Ao55 x251004_1.length co55)) (fun _ hk => hk.1.1), by (with_reducible repeat (first | apply Kd.V_alloc | apply Kd.V_drewN | apply Kd.V_drew)); exact Kd.V_mono (Kd.V_far (p := ⟨gb251, 4, none⟩) (Kd.V_far (p := ⟨gb251, 3, none⟩) (Kd.V_far (p := ⟨gb251, 2, none⟩) (Kd.V_far (p := ⟨gb251, 1, none⟩) (Kd.V_far (p := ⟨gb251, 0, none⟩) (Kd.V_mono HO_251004.out (fun k_ hk => (⟨hk, hk.2.2⟩ : _ ∧ k_ ≠ gb251))) (fun _ hk => hk.2) (.string a0_0)) (fun _ hk => hk.2) (.string a0_1)) (fun _ hk => hk.2) (.string a0_2)) (fun _ hk => hk.2) (.slice A0_3 l0_3.length c0_3)) (fun _ hk => hk.2) (.slice Ao55 x251004_1.length co55)) (fun _ hk => hk.1.1), by repeat (first | (with_reducible first | exact HB.out | apply below_alloc | apply pw_below_drewN | apply below_drew1 | refine below_set ?_ GE250.out | refine below_set ?_ GE251.out) | exact HB.out)⟩
       ·rw [if_neg c19] at H
        exact absurd H (by simp)
      ·replace c17 := Bool.eq_false_iff.mpr c17
       subst c17
       have H1 : (if x3_1 < (l2.length : Int) then (some (a0_0, a0_1, a0_2, l0_3, x251004_1, rd l2 x3_1, 70)) else (none)) = some (r1, r2, r3, r4, r5, r6, r7) := by rw [if_neg (show ¬ (false = true) by decide)] at H; exact H
       clear H
       have H := H1
       clear H1
       by_cases c59 : x3_1 < (l2.length : Int)
       ·rw [if_pos c59] at H
        have c59b0 : decide (x3_1 < (l2.length : Int)) = true := decide_eq_true c59
        clear c59
        simp only [Option.some.injEq, Prod.mk.injEq] at H
        obtain ⟨rfl, rfl, rfl, rfl, rfl, rfl, rfl⟩ := H
        have p252 : 0 ≤ (x3_1 : Int) := of_decide_eq_true (by first | (with_reducible assumption) | assumption)
        have q252 : x3_1 < (l1.length : Int) := of_decide_eq_true (by first | (with_reducible assumption) | assumption)
        obtain ⟨ad252, e252, hx252_0⟩ := Kd.at_string HR1.out x3_1 p252 q252
        cases e252
        replace hx252_0 := (HB.out.cell (World.block_lt_of_cell? w _ hx252_0)).trans hx252_0
        replace p252 := eq_true p252
        replace q252 := eq_true q252
        try go_wp2_with (first | ((with_reducible refine gate_callee (f := 35) rfl ?_); refine gb_ (some 32) Tryz.func35 #[.string (rdOf ByteArray.empty l1 x3_1), .int .i64 2, .int .i64 2] ?_; (with_reducible refine (idiomref07_signs.calls k1 (rdOf ByteArray.empty l1 x3_1) 2 2 false _ A16.out).mono ?_); rintro e w' ⟨rfl, ⟨nd, rfl⟩⟩; refine ⟨_, rfl, ?_⟩; (try (rw [drewN_self wr]; generalize hq_ : World.drewN wr _ = wr; have n0_ : Aside0 (Kd.V Kd.string 9 wr w.heap.size (fun k_ => ((P0_3_ k_ ∨ P0_4_ k_) ∨ w.heap.size ≤ k_) ∧ k_ ≠ gb250 ∧ k_ ≠ gb251) (.slice A0_3 l0_3.length c0_3) l0_3) := ⟨by rw [← hq_]; exact (va_ HO_251003)⟩; have n1_ : Aside0 (Kd.V k39 39 wr w.heap.size (fun k_ => ((P0_3_ k_ ∨ P0_4_ k_) ∨ w.heap.size ≤ k_) ∧ k_ ≠ gb250 ∧ k_ ≠ gb251) u251004 x251004_1) := ⟨by rw [← hq_]; exact (va_ HO_251004)⟩; have n2_ : Aside0 (wr.heap[gb250]? = some (.cells #[.string a0_0, .string a0_1, .string a0_2, .slice A0_3 l0_3.length c0_3, u251004] 25 (0, 0))) := ⟨by rw [← hq_]; exact (bk_ BK250)⟩; have n3_ : Aside0 (wr.heap[gb251]? = some (.cells #[.string x252000_1, .string x252001_1, .string x252002_1, .slice none 0 0, .slice none 0 0] 25 (0, 0))) := ⟨by rw [← hq_]; exact (bk_ BK251)⟩; have n4_ : Aside0 (Below w.heap.size w wr) := ⟨by rw [← hq_]; exact (by repeat (first | (with_reducible first | exact HB.out | apply below_alloc | apply pw_below_drewN | apply below_drew1 | refine below_set ?_ GE250.out | refine below_set ?_ GE251.out) | exact HB.out))⟩; clear HO_251003 HO_251004 BK250 BK251 HB hq_; have HO_251003 := n0_; have HO_251004 := n1_; have BK250 := n2_; have BK251 := n3_; have HB := n4_; clear n0_ n1_ n2_ n3_ n4_; (try (have hu250_0 : wr.cell? ⟨gb250, 0, none⟩ = some (.string a0_0) := (blk_cell BK250.out 0).trans rfl)); (try (have hu250_1 : wr.cell? ⟨gb250, 1, none⟩ = some (.string a0_1) := (blk_cell BK250.out 1).trans rfl)); (try (have hu250_2 : wr.cell? ⟨gb250, 2, none⟩ = some (.string a0_2) := (blk_cell BK250.out 2).trans rfl)); (try (have hu250_3 : wr.cell? ⟨gb250, 3, none⟩ = some (.slice A0_3 l0_3.length c0_3) := (blk_cell BK250.out 3).trans rfl)); (try (have hu250_4 : wr.cell? ⟨gb250, 4, none⟩ = some (u251004) := (blk_cell BK250.out 4).trans rfl)); (try (have hu251_0 : wr.cell? ⟨gb251, 0, none⟩ = some (.string x252000_1) := (blk_cell BK251.out 0).trans rfl)); (try (have hu251_1 : wr.cell? ⟨gb251, 1, none⟩ = some (.string x252001_1) := (blk_cell BK251.out 1).trans rfl)); (try (have hu251_2 : wr.cell? ⟨gb251, 2, none⟩ = some (.string x252002_1) := (blk_cell BK251.out 2).trans rfl)); (try (have hu251_3 : wr.cell? ⟨gb251, 3, none⟩ = some (.slice none 0 0) := (blk_cell BK251.out 3).trans rfl)); (try (have hu251_4 : wr.cell? ⟨gb251, 4, none⟩ = some (.slice none 0 0) := (blk_cell BK251.out 4).trans rfl)); (try (have hv250_0 := blk_frozen BK250.out 0)); (try (have hv250_1 := blk_frozen BK250.out 1)); (try (have hv250_2 := blk_frozen BK250.out 2)); (try (have hv250_3 := blk_frozen BK250.out 3)); (try (have hv250_4 := blk_frozen BK250.out 4)); (try (have hv251_0 := blk_frozen BK251.out 0)); (try (have hv251_1 := blk_frozen BK251.out 1)); (try (have hv251_2 := blk_frozen BK251.out 2)); (try (have hv251_3 := blk_frozen BK251.out 3)); (try (have hv251_4 := blk_frozen BK251.out 4))))))
        replace HO_251003 := Aside0.mk (Kd.V_drew HO_251003.out)
        replace HO_251004 := Aside0.mk (Kd.V_drew HO_251004.out)
        replace BK250 := Aside0.mk (blk_drew BK250.out)
        replace BK251 := Aside0.mk (blk_drew BK251.out)
        replace HB := Aside0.mk (below_drew1 HB.out)
        have p254 : 0 ≤ (x3_1 : Int) := of_decide_eq_true (by first | (with_reducible assumption) | assumption)
        have q254 : x3_1 < (l2.length : Int) := of_decide_eq_true (by first | (with_reducible assumption) | assumption)
        obtain ⟨ad254, e254, hx254_0⟩ := Kd.at_int HR2.out x3_1 p254 q254
        have hw254_0 := hx254_0
        cases e254
        replace hx254_0 := (HB.out.cell (World.block_lt_of_cell? w _ hx254_0)).trans hx254_0
        replace p254 := eq_true p254
        replace q254 := eq_true q254
        obtain ⟨Ao65, co65, eo65⟩ := Kd.V_slice HO_251004.out
        (first | subst eo65 | (injection eo65 with f1_ f2_ f3_; have f4_ := f1_.symm; have f5_ := f3_.symm; clear f1_ f2_ f3_; subst f4_; subst f5_))
        refine start_ (n := 8) (S := fun w' => w'.cell? ⟨gb250, 0, none⟩ = some (.string a0_0) ∧ w'.cell? ⟨gb250, 1, none⟩ = some (.string a0_1) ∧ w'.cell? ⟨gb250, 2, none⟩ = some (.string a0_2) ∧ w'.cell? ⟨gb250, 3, none⟩ = some (.slice A0_3 l0_3.length c0_3) ∧ w'.cell? ⟨gb250, 4, none⟩ = some (.slice Ao65 x251004_1.length co65) ∧ w'.cell? (ad254.add (x3_1).toNat) = some (.int .i64 (rd l2 x3_1))) (ds := []) (bmp 8 0) (by kernel_rfl) rfl rfl ⟨(blk_cell BK250.out 0).trans rfl, (blk_cell BK250.out 1).trans rfl, (blk_cell BK250.out 2).trans rfl, (blk_cell BK250.out 3).trans rfl, (blk_cell BK250.out 4).trans rfl, ((HB.out.cell (World.block_lt_of_cell? w _ hw254_0)).trans hw254_0)⟩ (fun hHeld => ?_); refine with_tabW idiomref07_keys.tab5 idiomref07_keys.bits5 (fun HT_ HW_ => ?_)
        generalize wr.drew = w60 at HO_251003 HO_251004 BK250 BK251 HB hx254_0 hHeld ⊢
        refine pure_ (i := 1) (N := some 35) (v := ?_) (a' := ?_) (bm 8 2) rfl rfl (any_of HT_.out (by kernel_rfl)) (fun _ _ _ h => h) (Or.inl ⟨by rfl, ?_⟩) ?_ ?_
        rotate_left
        ·intro w'
         go_simp
         with_reducible rfl
        rotate_left
        ·simp only [Act.put, List.setIfInBounds_toArray, List.set_cons_zero, List.set_cons_succ, i64_w, i32_w]
         rfl
        refine pure_ (i := 2) (N := some 36) (v := ?_) (a' := ?_) (bm 8 6) rfl rfl (any_of HT_.out (by kernel_rfl)) (fun _ _ _ h => h) (Or.inl ⟨by rfl, ?_⟩) ?_ ?_
        rotate_left
        ·intro w'
         go_simp
         with_reducible rfl
        rotate_left
        ·simp only [Act.put, List.setIfInBounds_toArray, List.set_cons_zero, List.set_cons_succ, i64_w, i32_w]
         rfl
        refine pure_ (i := 3) (N := some 37) (v := ?_) (a' := ?_) (bm 8 14) rfl rfl (any_of HT_.out (by kernel_rfl)) (fun _ _ _ h => h) (Or.inl ⟨by rfl, ?_⟩) ?_ ?_
        rotate_left
        ·intro w'
         go_simp
         with_reducible rfl
        rotate_left
        ·simp only [Act.put, List.setIfInBounds_toArray, List.set_cons_zero, List.set_cons_succ, i64_w, i32_w]
         rfl
        refine take_ (i := 0) (N := some 34) (v := ?_) (a' := ?_) (bmp 8 4) rfl rfl (take_ofW HT_.out HW_.out (by kernel_rfl)) (fun _ _ _ h => h) (Or.inl ⟨by rfl, ?_⟩) hHeld ?_ ?_
        rotate_left
        ·rintro w' ⟨s0, s1, s2, s3, s4, s5⟩
         go_simp
         with_reducible rfl
        rotate_left
        ·simp only [Act.put, List.setIfInBounds_toArray, List.set_cons_zero, List.set_cons_succ, i64_w, i32_w]
         rfl
        refine tk_ HT_ HW_ hHeld ?_
        refine one_ (i := 5) (N := none) (bmp 8 6) rfl rfl (one_of HT_.out (by kernel_rfl)) (by decide) (fun K hK => ?_)
        have hs61 : w60.cell? ⟨gb251, 0, none⟩ = some (.string x252000_1) := (blk_cell BK251.out 0).trans rfl
        have hfs61 := blk_frozen BK251.out 0
        have hns61_0 := NB250_251.out
        have hms61_0 := NB251_250.out
        have hs62 : w60.cell? ⟨gb251, 1, none⟩ = some (.string x252001_1) := (blk_cell BK251.out 1).trans rfl
        have hfs62 := blk_frozen BK251.out 1
        have hns62_0 := NB250_251.out
        have hms62_0 := NB251_250.out
        have hs63 : w60.cell? ⟨gb251, 2, none⟩ = some (.string x252002_1) := (blk_cell BK251.out 2).trans rfl
        have hfs63 := blk_frozen BK251.out 2
        have hns63_0 := NB250_251.out
        have hms63_0 := NB251_250.out
        have hs64 : w60.cell? ⟨gb251, 3, none⟩ = some (.slice none 0 0) := (blk_cell BK251.out 3).trans rfl
        have hfs64 := blk_frozen BK251.out 3
        have hns64_0 := NB250_251.out
        have hms64_0 := NB251_250.out
        have hs66 : w60.cell? ⟨gb251, 4, none⟩ = some (.slice none 0 0) := (blk_cell BK251.out 4).trans rfl
        have hfs66 := blk_frozen BK251.out 4
        have hns66_0 := NB250_251.out
        have hms66_0 := NB251_250.out
        refine skip_ (w1 := ?_) (by rfl) rfl ?_ ?_
        rotate_left
        ·go_simp
         rfl
        refine hK.out _ _ ⟨((cell_far (p := ⟨gb251, _, none⟩) NB250_251.out _).trans (((cell_far (p := ⟨gb251, _, none⟩) NB250_251.out _).trans (((cell_far (p := ⟨gb251, _, none⟩) NB250_251.out _).trans (((cell_far (p := ⟨gb251, _, none⟩) NB250_251.out _).trans (((cell_far (p := ⟨gb251, _, none⟩) NB250_251.out _).trans (hHeld.1)))))))))), ((cell_far (p := ⟨gb251, _, none⟩) NB250_251.out _).trans (((cell_far (p := ⟨gb251, _, none⟩) NB250_251.out _).trans (((cell_far (p := ⟨gb251, _, none⟩) NB250_251.out _).trans (((cell_far (p := ⟨gb251, _, none⟩) NB250_251.out _).trans (((cell_far (p := ⟨gb251, _, none⟩) NB250_251.out _).trans (hHeld.2.1)))))))))), ((cell_far (p := ⟨gb251, _, none⟩) NB250_251.out _).trans (((cell_far (p := ⟨gb251, _, none⟩) NB250_251.out _).trans (((cell_far (p := ⟨gb251, _, none⟩) NB250_251.out _).trans (((cell_far (p := ⟨gb251, _, none⟩) NB250_251.out _).trans (((cell_far (p := ⟨gb251, _, none⟩) NB250_251.out _).trans (hHeld.2.2.1)))))))))), ((cell_far (p := ⟨gb251, _, none⟩) NB250_251.out _).trans (((cell_far (p := ⟨gb251, _, none⟩) NB250_251.out _).trans (((cell_far (p := ⟨gb251, _, none⟩) NB250_251.out _).trans (((cell_far (p := ⟨gb251, _, none⟩) NB250_251.out _).trans (((cell_far (p := ⟨gb251, _, none⟩) NB250_251.out _).trans (hHeld.2.2.2.1)))))))))), ((cell_far (p := ⟨gb251, _, none⟩) NB250_251.out _).trans (((cell_far (p := ⟨gb251, _, none⟩) NB250_251.out _).trans (((cell_far (p := ⟨gb251, _, none⟩) NB250_251.out _).trans (((cell_far (p := ⟨gb251, _, none⟩) NB250_251.out _).trans (((cell_far (p := ⟨gb251, _, none⟩) NB250_251.out _).trans (hHeld.2.2.2.2.1)))))))))), ((cell_far (p := ⟨gb251, _, none⟩) (by first | exact Nat.ne_of_lt (Nat.lt_of_lt_of_le (by have := World.block_lt_of_cell? _ _ hw254_0; first | rwa [add_block] at this | exact this) GW251.out) | (rw [add_block]; exact Nat.ne_of_lt (Nat.lt_of_lt_of_le (by have := World.block_lt_of_cell? _ _ hw254_0; first | rwa [add_block] at this | exact this) GW251.out)) | (show (Addr.add _ _).block ≠ _; rw [add_block]; exact Nat.ne_of_lt (Nat.lt_of_lt_of_le (by have := World.block_lt_of_cell? _ _ hw254_0; first | rwa [add_block] at this | exact this) GW251.out)) | (dsimp only; exact Nat.ne_of_lt (Nat.lt_of_lt_of_le (by have := World.block_lt_of_cell? _ _ hw254_0; first | rwa [add_block] at this | exact this) GW251.out))) _).trans (((cell_far (p := ⟨gb251, _, none⟩) (by first | exact Nat.ne_of_lt (Nat.lt_of_lt_of_le (by have := World.block_lt_of_cell? _ _ hw254_0; first | rwa [add_block] at this | exact this) GW251.out) | (rw [add_block]; exact Nat.ne_of_lt (Nat.lt_of_lt_of_le (by have := World.block_lt_of_cell? _ _ hw254_0; first | rwa [add_block] at this | exact this) GW251.out)) | (show (Addr.add _ _).block ≠ _; rw [add_block]; exact Nat.ne_of_lt (Nat.lt_of_lt_of_le (by have := World.block_lt_of_cell? _ _ hw254_0; first | rwa [add_block] at this | exact this) GW251.out)) | (dsimp only; exact Nat.ne_of_lt (Nat.lt_of_lt_of_le (by have := World.block_lt_of_cell? _ _ hw254_0; first | rwa [add_block] at this | exact this) GW251.out))) _).trans (((cell_far (p := ⟨gb251, _, none⟩) (by first | exact Nat.ne_of_lt (Nat.lt_of_lt_of_le (by have := World.block_lt_of_cell? _ _ hw254_0; first | rwa [add_block] at this | exact this) GW251.out) | (rw [add_block]; exact Nat.ne_of_lt (Nat.lt_of_lt_of_le (by have := World.block_lt_of_cell? _ _ hw254_0; first | rwa [add_block] at this | exact this) GW251.out)) | (show (Addr.add _ _).block ≠ _; rw [add_block]; exact Nat.ne_of_lt (Nat.lt_of_lt_of_le (by have := World.block_lt_of_cell? _ _ hw254_0; first | rwa [add_block] at this | exact this) GW251.out)) | (dsimp only; exact Nat.ne_of_lt (Nat.lt_of_lt_of_le (by have := World.block_lt_of_cell? _ _ hw254_0; first | rwa [add_block] at this | exact this) GW251.out))) _).trans (((cell_far (p := ⟨gb251, _, none⟩) (by first | exact Nat.ne_of_lt (Nat.lt_of_lt_of_le (by have := World.block_lt_of_cell? _ _ hw254_0; first | rwa [add_block] at this | exact this) GW251.out) | (rw [add_block]; exact Nat.ne_of_lt (Nat.lt_of_lt_of_le (by have := World.block_lt_of_cell? _ _ hw254_0; first | rwa [add_block] at this | exact this) GW251.out)) | (show (Addr.add _ _).block ≠ _; rw [add_block]; exact Nat.ne_of_lt (Nat.lt_of_lt_of_le (by have := World.block_lt_of_cell? _ _ hw254_0; first | rwa [add_block] at this | exact this) GW251.out)) | (dsimp only; exact Nat.ne_of_lt (Nat.lt_of_lt_of_le (by have := World.block_lt_of_cell? _ _ hw254_0; first | rwa [add_block] at this | exact this) GW251.out))) _).trans (((cell_far (p := ⟨gb251, _, none⟩) (by first | exact Nat.ne_of_lt (Nat.lt_of_lt_of_le (by have := World.block_lt_of_cell? _ _ hw254_0; first | rwa [add_block] at this | exact this) GW251.out) | (rw [add_block]; exact Nat.ne_of_lt (Nat.lt_of_lt_of_le (by have := World.block_lt_of_cell? _ _ hw254_0; first | rwa [add_block] at this | exact this) GW251.out)) | (show (Addr.add _ _).block ≠ _; rw [add_block]; exact Nat.ne_of_lt (Nat.lt_of_lt_of_le (by have := World.block_lt_of_cell? _ _ hw254_0; first | rwa [add_block] at this | exact this) GW251.out)) | (dsimp only; exact Nat.ne_of_lt (Nat.lt_of_lt_of_le (by have := World.block_lt_of_cell? _ _ hw254_0; first | rwa [add_block] at this | exact this) GW251.out))) _).trans (hHeld.2.2.2.2.2))))))))))⟩ (fun hHeld => ?_)
        clear hK K
        iterate 2 (refine pu_ HT_ ?_)
        refine done_ (done_of HT_.out (by kernel_rfl)) ?_
        try go_wp2
        refine bodyPost_ret (results_ctt rfl _ _ gb251 25 #[.string a0_0, .string a0_1, .string a0_2, .slice A0_3 l0_3.length c0_3, .slice Ao65 x251004_1.length co65] (0, 0) _ rfl (by (with_reducible repeat (first | refine blk_drewN ?_ _ | refine blk_drew ?_ | refine blk_alloc ?_ _)); refine blk_put (cs := #[.string a0_0, .string a0_1, .string a0_2, .slice A0_3 l0_3.length c0_3, .slice none 0 0]) ?_ 4 _ rfl; (with_reducible repeat (first | refine blk_drewN ?_ _ | refine blk_drew ?_ | refine blk_alloc ?_ _)); refine blk_put (cs := #[.string a0_0, .string a0_1, .string a0_2, .slice none 0 0, .slice none 0 0]) ?_ 3 _ (by first | rfl | simp); (with_reducible repeat (first | refine blk_drewN ?_ _ | refine blk_drew ?_ | refine blk_alloc ?_ _)); refine blk_put (cs := #[.string a0_0, .string a0_1, .string x252002_1, .slice none 0 0, .slice none 0 0]) ?_ 2 _ rfl; (with_reducible repeat (first | refine blk_drewN ?_ _ | refine blk_drew ?_ | refine blk_alloc ?_ _)); refine blk_put (cs := #[.string a0_0, .string x252001_1, .string x252002_1, .slice none 0 0, .slice none 0 0]) ?_ 1 _ rfl; (with_reducible repeat (first | refine blk_drewN ?_ _ | refine blk_drew ?_ | refine blk_alloc ?_ _)); refine blk_put (cs := #[.string x252000_1, .string x252001_1, .string x252002_1, .slice none 0 0, .slice none 0 0]) ?_ 0 _ rfl; (with_reducible repeat (first | refine blk_drewN ?_ _ | refine blk_drew ?_ | refine blk_alloc ?_ _)); exact BK251.out) Tryz.underlying25 rfl (by kernel_rfl)) rfl ?_
        exact ⟨_, _, by first | rfl | (simp [errW_none, errW_some] <;> rfl) | (simp [*, errW_none, errW_some] <;> rfl), by (with_reducible repeat (first | apply Kd.V_alloc | apply Kd.V_drewN | apply Kd.V_drew)); exact Kd.V_mono (Kd.V_far (p := ⟨gb251, 4, none⟩) (Kd.V_far (p := ⟨gb251, 3, none⟩) (Kd.V_far (p := ⟨gb251, 2, none⟩) (Kd.V_far (p := ⟨gb251, 1, none⟩) (Kd.V_far (p := ⟨gb251, 0, none⟩) (Kd.V_mono HO_251003.out (fun k_ hk => (⟨hk, hk.2.2⟩ : _ ∧ k_ ≠ gb251))) (fun _ hk => hk.2) (.string a0_0)) (fun _ hk => hk.2) (.string a0_1)) (fun _ hk => hk.2) (.string a0_2)) (fun _ hk => hk.2) (.slice A0_3 l0_3.length c0_3)) (fun _ hk => hk.2) (.slice Ao65 x251004_1.length co65)) (fun _ hk => hk.1.1), by (with_reducible repeat (first | apply Kd.V_alloc | apply Kd.V_drewN | apply Kd.V_drew)); exact Kd.V_mono (Kd.V_far (p := ⟨gb251, 4, none⟩) (Kd.V_far (p := ⟨gb251, 3, none⟩) (Kd.V_far (p := ⟨gb251, 2, none⟩) (Kd.V_far (p := ⟨gb251, 1, none⟩) (Kd.V_far (p := ⟨gb251, 0, none⟩) (Kd.V_mono HO_251004.out (fun k_ hk => (⟨hk, hk.2.2⟩ : _ ∧ k_ ≠ gb251))) (fun _ hk => hk.2) (.string a0_0)) (fun _ hk => hk.2) (.string a0_1)) (fun _ hk => hk.2) (.string a0_2)) (fun _ hk => hk.2) (.slice A0_3 l0_3.length c0_3)) (fun _ hk => hk.2) (.slice Ao65 x251004_1.length co65)) (fun _ hk => hk.1.1), by repeat (first | (with_reducible first | exact HB.out | apply below_alloc | apply pw_below_drewN | apply below_drew1 | refine below_set ?_ GE250.out | refine below_set ?_ GE251.out) | exact HB.out)⟩
       ·rw [if_neg c59] at H
        exact absurd H (by simp)
     ·rw [if_neg c15] at H
      exact absurd H (by simp)
    ·rw [if_neg c14] at H
     have c14b0 : decide (x3_1 < (l1.length : Int)) = false := decide_eq_false c14
     clear c14
     simp only [Option.some.injEq, Prod.mk.injEq] at H
     obtain ⟨rfl, rfl, rfl, rfl, rfl, rfl, rfl⟩ := H
     have hnb67 := NB250_251.out
     have hnc67 := NB251_250.out
     have hcz68_0 : wr.cell? ⟨gb250, 0, none⟩ = some (.string a0_0) := (blk_cell BK250.out 0).trans rfl
     have hcz68_1 : wr.cell? ⟨gb250, 1, none⟩ = some (.string a0_1) := (blk_cell BK250.out 1).trans rfl
     have hcz68_2 : wr.cell? ⟨gb250, 2, none⟩ = some (.string a0_2) := (blk_cell BK250.out 2).trans rfl
     have hcz68_3 : wr.cell? ⟨gb250, 3, none⟩ = some (.slice A0_3 l0_3.length c0_3) := (blk_cell BK250.out 3).trans rfl
     have hcz68_4 : wr.cell? ⟨gb250, 4, none⟩ = some (u251004) := (blk_cell BK250.out 4).trans rfl
     have hfz68_0 := blk_frozen BK250.out 0
     have hfz68_1 := blk_frozen BK250.out 1
     have hfz68_2 := blk_frozen BK250.out 2
     have hfz68_3 := blk_frozen BK250.out 3
     have hfz68_4 := blk_frozen BK250.out 4
     have hcz69_0 : wr.cell? ⟨gb251, 0, none⟩ = some (.string x252000_1) := (blk_cell BK251.out 0).trans rfl
     have hcz69_1 : wr.cell? ⟨gb251, 1, none⟩ = some (.string x252001_1) := (blk_cell BK251.out 1).trans rfl
     have hcz69_2 : wr.cell? ⟨gb251, 2, none⟩ = some (.string x252002_1) := (blk_cell BK251.out 2).trans rfl
     have hcz69_3 : wr.cell? ⟨gb251, 3, none⟩ = some (.slice none 0 0) := (blk_cell BK251.out 3).trans rfl
     have hcz69_4 : wr.cell? ⟨gb251, 4, none⟩ = some (.slice none 0 0) := (blk_cell BK251.out 4).trans rfl
     have hfz69_0 := blk_frozen BK251.out 0
     have hfz69_1 := blk_frozen BK251.out 1
     have hfz69_2 := blk_frozen BK251.out 2
     have hfz69_3 := blk_frozen BK251.out 3
     have hfz69_4 := blk_frozen BK251.out 4
     obtain ⟨Ao70, co70, eo70⟩ := Kd.V_slice HO_251004.out
     subst eo70
     go_wp2
     refine bodyPost_ret (results_ctt rfl _ _ gb251 25 #[.string a0_0, .string a0_1, .string a0_2, .slice A0_3 l0_3.length c0_3, .slice Ao70 x251004_1.length co70] (0, 0) _ rfl (by (with_reducible repeat (first | refine blk_drewN ?_ _ | refine blk_drew ?_ | refine blk_alloc ?_ _)); refine blk_put (cs := #[.string a0_0, .string a0_1, .string a0_2, .slice A0_3 l0_3.length c0_3, .slice none 0 0]) ?_ 4 _ rfl; (with_reducible repeat (first | refine blk_drewN ?_ _ | refine blk_drew ?_ | refine blk_alloc ?_ _)); refine blk_put (cs := #[.string a0_0, .string a0_1, .string a0_2, .slice none 0 0, .slice none 0 0]) ?_ 3 _ (by first | rfl | simp); (with_reducible repeat (first | refine blk_drewN ?_ _ | refine blk_drew ?_ | refine blk_alloc ?_ _)); refine blk_put (cs := #[.string a0_0, .string a0_1, .string x252002_1, .slice none 0 0, .slice none 0 0]) ?_ 2 _ rfl; (with_reducible repeat (first | refine blk_drewN ?_ _ | refine blk_drew ?_ | refine blk_alloc ?_ _)); refine blk_put (cs := #[.string a0_0, .string x252001_1, .string x252002_1, .slice none 0 0, .slice none 0 0]) ?_ 1 _ rfl; (with_reducible repeat (first | refine blk_drewN ?_ _ | refine blk_drew ?_ | refine blk_alloc ?_ _)); refine blk_put (cs := #[.string x252000_1, .string x252001_1, .string x252002_1, .slice none 0 0, .slice none 0 0]) ?_ 0 _ rfl; (with_reducible repeat (first | refine blk_drewN ?_ _ | refine blk_drew ?_ | refine blk_alloc ?_ _)); exact BK251.out) Tryz.underlying25 rfl (by kernel_rfl)) rfl ?_
     exact ⟨_, _, by first | rfl | (simp [errW_none, errW_some] <;> rfl) | (simp [*, errW_none, errW_some] <;> rfl), by (with_reducible repeat (first | apply Kd.V_alloc | apply Kd.V_drewN | apply Kd.V_drew)); exact Kd.V_mono (Kd.V_far (p := ⟨gb251, 4, none⟩) (Kd.V_far (p := ⟨gb251, 3, none⟩) (Kd.V_far (p := ⟨gb251, 2, none⟩) (Kd.V_far (p := ⟨gb251, 1, none⟩) (Kd.V_far (p := ⟨gb251, 0, none⟩) (Kd.V_mono HO_251003.out (fun k_ hk => (⟨hk, hk.2.2⟩ : _ ∧ k_ ≠ gb251))) (fun _ hk => hk.2) (.string a0_0)) (fun _ hk => hk.2) (.string a0_1)) (fun _ hk => hk.2) (.string a0_2)) (fun _ hk => hk.2) (.slice A0_3 l0_3.length c0_3)) (fun _ hk => hk.2) (.slice Ao70 x251004_1.length co70)) (fun _ hk => hk.1.1), by (with_reducible repeat (first | apply Kd.V_alloc | apply Kd.V_drewN | apply Kd.V_drew)); exact Kd.V_mono (Kd.V_far (p := ⟨gb251, 4, none⟩) (Kd.V_far (p := ⟨gb251, 3, none⟩) (Kd.V_far (p := ⟨gb251, 2, none⟩) (Kd.V_far (p := ⟨gb251, 1, none⟩) (Kd.V_far (p := ⟨gb251, 0, none⟩) (Kd.V_mono HO_251004.out (fun k_ hk => (⟨hk, hk.2.2⟩ : _ ∧ k_ ≠ gb251))) (fun _ hk => hk.2) (.string a0_0)) (fun _ hk => hk.2) (.string a0_1)) (fun _ hk => hk.2) (.string a0_2)) (fun _ hk => hk.2) (.slice A0_3 l0_3.length c0_3)) (fun _ hk => hk.2) (.slice Ao70 x251004_1.length co70)) (fun _ hk => hk.1.1), by repeat (first | (with_reducible first | exact HB.out | apply below_alloc | apply pw_below_drewN | apply below_drew1 | refine below_set ?_ GE250.out | refine below_set ?_ GE251.out) | exact HB.out)⟩
end Go.Proofs.YtphjhbppjakocaaGreatDoor.PTag
