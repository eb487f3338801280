/- Printed by a program (the kit's print.py with changes of this session) out of Lean's own print of the program: functions of the program as plain Lean functions, and that each call comes to what they say; conditions: those that each theorem states. Not trusted: Lean checks it. -/
import Derived.Test.YtphjhbppjakocaaGreatDoorPPars0
import Derived.Test.YtphjhbppjakocaaGreatDoorBrief
import Derived.Test.YtphjhbppjakocaaGreatDoorPPars14
import Derived.Test.YtphjhbppjakocaaGreatDoorPPars15
import Derived.Test.YtphjhbppjakocaaGreatDoorPPars16
import Derived.Test.YtphjhbppjakocaaGreatDoorPPars17
import Derived.Test.YtphjhbppjakocaaGreatDoorPPars18
import Derived.Test.YtphjhbppjakocaaGreatDoorPPars20
namespace Go.Proofs.YtphjhbppjakocaaGreatDoor.PTag
open Go.RowKit Go.Proofs.YtphjhbppjakocaaGreatDoorW.PrintWords Go.Proofs.YtphjhbppjakocaaGreatDoorW.PrintLast Go.Proofs.YtphjhbppjakocaaGreatDoorW.PrintMore
attribute [local go_sem] max2_int min2_int max_two min_two max_three min_three max_four min_four
set_option linter.unusedVariables false
set_option linter.unusedSimpArgs false
attribute [local go_sem] setCell_drewN_ cell_put_twice_ gtr_less_
mutual
def idiomref07_read.j0 : Nat → List ByteArray → List Int → Int → Int → ByteArray → ByteArray → ByteArray → Option (ByteArray × ByteArray × ByteArray × List ByteArray × (List (S39)) × Int × Int)
 | 0, _, _, _, _, _, _, _ => none
 | k + 1, x0, x1, x2, x10, x268000, x268001, x268002 => if x10 < (x0.length : Int) then (if 0 ≤ x10 then ((idiomref07_script.f k (rdOf ByteArray.empty x0 x10)).bind fun t275 => (idiomref07_read.j1 k x0 x1 x2 x10 t275 x268000 x268001 x268002)) else (none)) else (idiomref07_read.j1 k x0 x1 x2 x10 false x268000 x268001 x268002)
def idiomref07_read.j1 : Nat → List ByteArray → List Int → Int → Int → Bool → ByteArray → ByteArray → ByteArray → Option (ByteArray × ByteArray × ByteArray × List ByteArray × (List (S39)) × Int × Int)
 | 0, _, _, _, _, _, _, _, _ => none
 | k + 1, x0, x1, x2, x10, x40, x268000, x268001, x268002 => if x40 = true then (if 0 ≤ x10 then (if x10 < (x0.length : Int) then ((idiomref07_title.f (rdOf ByteArray.empty x0 x10)).bind fun t277 => (idiomref07_read.j2 k x0 x1 x2 (wrap64 (x10 + 1)) x268000 t277 x268002)) else (none)) else (none)) else (idiomref07_read.j2 k x0 x1 x2 x10 x268000 x268001 x268002)
def idiomref07_read.j2 : Nat → List ByteArray → List Int → Int → Int → ByteArray → ByteArray → ByteArray → Option (ByteArray × ByteArray × ByteArray × List ByteArray × (List (S39)) × Int × Int)
 | 0, _, _, _, _, _, _, _ => none
 | k + 1, x0, x1, x2, x10, x268000, x268001, x268002 => if x10 < (x0.length : Int) then (if 0 ≤ x10 then ((idiomref07_region.f k (rdOf ByteArray.empty x0 x10)).bind fun t279 => (idiomref07_read.j3 k x0 x1 x2 x10 t279 x268000 x268001 x268002)) else (none)) else (idiomref07_read.j3 k x0 x1 x2 x10 false x268000 x268001 x268002)
def idiomref07_read.j3 : Nat → List ByteArray → List Int → Int → Int → Bool → ByteArray → ByteArray → ByteArray → Option (ByteArray × ByteArray × ByteArray × List ByteArray × (List (S39)) × Int × Int)
 | 0, _, _, _, _, _, _, _, _ => none
 | k + 1, x0, x1, x2, x10, x59, x268000, x268001, x268002 => if x59 = true then (if 0 ≤ x10 then (if x10 < (x0.length : Int) then ((idiomref07_great.f (rdOf ByteArray.empty x0 x10)).bind fun t281 => (idiomref07_read.j4 k x0 x1 x2 (wrap64 (x10 + 1)) x268000 x268001 t281)) else (none)) else (none)) else (idiomref07_read.j4 k x0 x1 x2 x10 x268000 x268001 x268002)
def idiomref07_read.j4 : Nat → List ByteArray → List Int → Int → Int → ByteArray → ByteArray → ByteArray → Option (ByteArray × ByteArray × ByteArray × List ByteArray × (List (S39)) × Int × Int)
 | 0, _, _, _, _, _, _, _ => none
 | k + 1, x0, x1, x2, x10, x268000, x268001, x268002 => idiomref07_read.l0 k x0 x1 x2 x10 x268000 x268001 x268002 ([] : List ByteArray)
def idiomref07_read.l0 : Nat → List ByteArray → List Int → Int → Int → ByteArray → ByteArray → ByteArray → List ByteArray → Option (ByteArray × ByteArray × ByteArray × List ByteArray × (List (S39)) × Int × Int)
 | 0, _, _, _, _, _, _, _, _ => none
 | k + 1, x0, x1, x2, x10, x268000, x268001, x268002, x268003 => if x10 < (x0.length : Int) then (if 0 ≤ x10 then ((idiomref07_variant.f k (rdOf ByteArray.empty x0 x10)).bind fun t283 => (idiomref07_read.j6 k x0 x1 x2 x10 t283 x268000 x268001 x268002 x268003)) else (none)) else (idiomref07_read.j6 k x0 x1 x2 x10 false x268000 x268001 x268002 x268003)
def idiomref07_read.j6 : Nat → List ByteArray → List Int → Int → Int → Bool → ByteArray → ByteArray → ByteArray → List ByteArray → Option (ByteArray × ByteArray × ByteArray × List ByteArray × (List (S39)) × Int × Int)
 | 0, _, _, _, _, _, _, _, _, _ => none
 | k + 1, x0, x1, x2, x10, x78, x268000, x268001, x268002, x268003 => if x78 = true then (if 0 ≤ x10 then (if x10 < (x0.length : Int) then ((idiomref07_Small.f (rdOf ByteArray.empty x0 x10)).bind fun t285 => ((idiomref07_put.f k x268003 t285).bind fun bt286 => (if bt286.2 = true then (if (bt286.1.length : Int) > 64 then (if x10 < (x1.length : Int) then (some (x268000, x268001, x268002, x268003, ([] : List (S39)), rd x1 x10, 5)) else (none)) else (idiomref07_read.l0 k x0 x1 x2 (wrap64 (x10 + 1)) x268000 x268001 x268002 bt286.1)) else (if x10 < (x1.length : Int) then (some (x268000, x268001, x268002, x268003, ([] : List (S39)), rd x1 x10, 6)) else (none))))) else (none)) else (none)) else (if x10 = (x0.length : Int) then (some (x268000, x268001, x268002, x268003, ([] : List (S39)), 0, 0)) else (if 0 ≤ x10 then (if x10 < (x0.length : Int) then ((idiomref07_Small.f (rdOf ByteArray.empty x0 x10)).bind fun t293 => (if t293.toList = ([117] : List UInt8) then ((idiomref07_keys.f k x268000 x268001 x268002 x268003 ([] : List (S39)) x0 x1 (wrap64 (x10 + 1)) x2).bind fun bt295 => (some (bt295.1, bt295.2.1, bt295.2.2.1, bt295.2.2.2.1, bt295.2.2.2.2.1, bt295.2.2.2.2.2.1, bt295.2.2.2.2.2.2))) else (if x10 < (x1.length : Int) then (some (x268000, x268001, x268002, x268003, ([] : List (S39)), rd x1 x10, 70)) else (none)))) else (none)) else (none)))
end
def idiomref07_read.f (k : Nat) (l0 : List ByteArray) (l1 : List Int) (a2 : Int) : Option (ByteArray × ByteArray × ByteArray × List ByteArray × (List (S39)) × Int × Int) := if 0 < (l0.length : Int) then ((idiomref07_lang.f k (rdOf ByteArray.empty l0 0)).bind fun t269 => (if t269 = true then ((idiomref07_Small.f (rdOf ByteArray.empty l0 0)).bind fun t271 => (if t271.toList = ([117, 110, 100] : List UInt8) then (idiomref07_read.j0 k l0 l1 a2 1 (⟨#[]⟩ : ByteArray) (⟨#[]⟩ : ByteArray) (⟨#[]⟩ : ByteArray)) else ((idiomref07_Small.f (rdOf ByteArray.empty l0 0)).bind fun t273 => (idiomref07_read.j0 k l0 l1 a2 1 t273 (⟨#[]⟩ : ByteArray) (⟨#[]⟩ : ByteArray))))) else (some ((⟨#[]⟩ : ByteArray), (⟨#[]⟩ : ByteArray), (⟨#[]⟩ : ByteArray), ([] : List ByteArray), ([] : List (S39)), 0, 70)))) else (none)
def idiomref07_read.T14 : Bool × List (List Nat × List Nat) := (true, [([], []), ([0], [0]), ([], []), ([], []), ([2, 3], [2, 3]), ([4], [4]), ([5], [5]), ([1, 6, 6], [1, 6]), ([7], [7]), ([8], [8]), ([8], [8]), ([9, 7, 0, 1, 2, 3, 4, 5, 6, 7, 8, 9], [9]), ([10, 11, 0, 1, 2, 3, 4, 5, 6, 7, 8, 9, 10, 11], [10])])
def idiomref07_read.B14 : List Nat := [0, 1, 0, 0, 12, 28, 60, 127, 255, 511, 511, 1023, 4095]
theorem idiomref07_read.tab14 : rtab .any (opsOf Tryz.f52 14) = idiomref07_read.T14 := by kernel_rfl
theorem idiomref07_read.bits14 : waitsOk idiomref07_read.T14.2 idiomref07_read.B14 = true := by kernel_rfl
def idiomref07_read.T16 : Bool × List (List Nat × List Nat) := (true, [([], []), ([], []), ([], []), ([1, 2], [1, 2]), ([3], [3]), ([0, 0], [0]), ([4, 5, 0, 1, 2, 3, 4, 5], [4]), ([6, 0, 1, 2, 3, 4, 5, 6], [])])
def idiomref07_read.B16 : List Nat := [0, 0, 0, 6, 14, 1, 63, 127]
theorem idiomref07_read.tab16 : rtab .any (opsOf Tryz.f52 16) = idiomref07_read.T16 := by kernel_rfl
theorem idiomref07_read.bits16 : waitsOk idiomref07_read.T16.2 idiomref07_read.B16 = true := by kernel_rfl
def idiomref07_read.T18 : Bool × List (List Nat × List Nat) := (true, [([], []), ([], []), ([], []), ([1, 2], [1, 2]), ([3], [3]), ([0, 0], [0]), ([4, 5, 0, 1, 2, 3, 4, 5], [4]), ([6, 0, 1, 2, 3, 4, 5, 6], [])])
def idiomref07_read.B18 : List Nat := [0, 0, 0, 6, 14, 1, 63, 127]
theorem idiomref07_read.tab18 : rtab .any (opsOf Tryz.f52 18) = idiomref07_read.T18 := by kernel_rfl
theorem idiomref07_read.bits18 : waitsOk idiomref07_read.T18.2 idiomref07_read.B18 = true := by kernel_rfl
def idiomref07_read.T23 : Bool × List (List Nat × List Nat) := (true, [([], []), ([], []), ([], []), ([1, 2], [1, 2]), ([3], [3]), ([0, 0], [0]), ([4, 5, 0, 1, 2, 3, 4, 5], [4]), ([6, 0, 1, 2, 3, 4, 5, 6], [])])
def idiomref07_read.B23 : List Nat := [0, 0, 0, 6, 14, 1, 63, 127]
theorem idiomref07_read.tab23 : rtab .any (opsOf Tryz.f52 23) = idiomref07_read.T23 := by kernel_rfl
theorem idiomref07_read.bits23 : waitsOk idiomref07_read.T23.2 idiomref07_read.B23 = true := by kernel_rfl
set_option maxHeartbeats 8000000 in
set_option maxRecDepth 100000 in
theorem idiomref07_read.calls (k : Nat) (A0 : Option Addr) (c0 : Nat) (l0 : List ByteArray) (A1 : Option Addr) (c1 : Nat) (l1 : List Int) (a2 : Int) (r1 : ByteArray) (r2 : ByteArray) (r3 : ByteArray) (r4 : List ByteArray) (r5 : List (S39)) (r6 : Int) (r7 : Int) (w : World) (hr0 : Kd.C Kd.string w A0 l0.length l0) (hc0 : l0.length ≤ c0) (hr1 : Kd.C (Kd.int .i64) w A1 l1.length l1) (hc1 : l1.length ≤ c1) (h : idiomref07_read.f k l0 l1 a2 = some (r1, r2, r3, r4, r5, r6, r7)) :
  Calls Tryz.prog 52 #[.slice A0 l0.length c0, .slice A1 l1.length c1, .int .i64 a2] w fun e w' => ∃ v3_ v4_ : Value, e = .returned (.tuple #[.agg #[.string r1, .string r2, .string r3, v3_, v4_], .int .i64 r6, .int .i64 r7]) ∧ Kd.V Kd.string 9 w' w.heap.size (fun k_ => (w.heap.size ≤ k_)) v3_ r4 ∧ Kd.V k39 39 w' w.heap.size (fun k_ => (w.heap.size ≤ k_)) v4_ r5 ∧ Below w.heap.size w w' := by
 have hu25 := Tryz.underlying25
 have HR0 := Aside0.mk hr0
 have HC0 := Aside0.mk hc0
 clear hr0 hc0
 have HR1 := Aside0.mk hr1
 have HC1 := Aside0.mk hc1
 clear hr1 hc1
 have HB := Aside0.mk (Below.refl w.heap.size w)
 have H : (if 0 < (l0.length : Int) then ((idiomref07_lang.f k (rdOf ByteArray.empty l0 0)).bind fun t269 => (if t269 = true then ((idiomref07_Small.f (rdOf ByteArray.empty l0 0)).bind fun t271 => (if t271.toList = ([117, 110, 100] : List UInt8) then (idiomref07_read.j0 k l0 l1 a2 1 (⟨#[]⟩ : ByteArray) (⟨#[]⟩ : ByteArray) (⟨#[]⟩ : ByteArray)) else ((idiomref07_Small.f (rdOf ByteArray.empty l0 0)).bind fun t273 => (idiomref07_read.j0 k l0 l1 a2 1 t273 (⟨#[]⟩ : ByteArray) (⟨#[]⟩ : ByteArray))))) else (some ((⟨#[]⟩ : ByteArray), (⟨#[]⟩ : ByteArray), (⟨#[]⟩ : ByteArray), ([] : List ByteArray), ([] : List (S39)), 0, 70)))) else (none)) = some (r1, r2, r3, r4, r5, r6, r7) := h
 clear h
 by_cases c4 : 0 < (l0.length : Int)
 ·rw [if_pos c4] at H
  have c4b0 : decide (0 < (l0.length : Int)) = true := decide_eq_true c4
  have c4b1 : decide (0 < l0.length) = true := decide_eq_true (by omega)
  clear c4
  replace H := Option.bind_eq_some_iff.mp H
  obtain ⟨t269, A50, H⟩ := H
  try dsimp only at H
  have A5 := Aside0.mk A50
  clear A50
  by_cases c6 : t269 = true
  ·subst c6
   have H1 : ((idiomref07_Small.f (rdOf ByteArray.empty l0 0)).bind fun t271 => (if t271.toList = ([117, 110, 100] : List UInt8) then (idiomref07_read.j0 k l0 l1 a2 1 (⟨#[]⟩ : ByteArray) (⟨#[]⟩ : ByteArray) (⟨#[]⟩ : ByteArray)) else ((idiomref07_Small.f (rdOf ByteArray.empty l0 0)).bind fun t273 => (idiomref07_read.j0 k l0 l1 a2 1 t273 (⟨#[]⟩ : ByteArray) (⟨#[]⟩ : ByteArray))))) = some (r1, r2, r3, r4, r5, r6, r7) := by rw [if_pos rfl] at H; exact H
   clear H
   have H := H1
   clear H1
   replace H := Option.bind_eq_some_iff.mp H
   obtain ⟨t271, A70, H⟩ := H
   try dsimp only at H
   have A7 := Aside0.mk A70
   clear A70
   have HC8 := Aside0.mk H
   clear H
   go_enter Tryz.func52, Tryz.ntmps52
   go_upto_if 24 with (first | ((with_reducible refine gate_dst (N := 6) rfl ?_); refine box_event ?hg (N := 6) ?hd (cs := #[.string (⟨#[]⟩ : ByteArray), .string (⟨#[]⟩ : ByteArray), .string (⟨#[]⟩ : ByteArray), .slice none 0 0, .slice none 0 0]) (t := 25) ?hr ?_; (case hd => rfl); (case hg => rfl); (case hr => first | (go_simp; done) | (go_simp; rfl)); intro gb266 hg w9 hbox hb; have BK266 := Aside0.mk (hbox); have GW266 := Aside0.mk ((by rw [hg]; exact hz_ : w.heap.size ≤ gb266)); have GE266 := Aside0.mk ((by rw [hg]; exact hz_ : w.heap.size ≤ gb266)); replace HB := Aside0.mk (below_step hb_ hb); clear hb hbox hg) | ((with_reducible refine gate_dst (N := 9) rfl ?_); refine box_event ?hg (N := 9) ?hd (cs := #[.string (⟨#[]⟩ : ByteArray), .string (⟨#[]⟩ : ByteArray), .string (⟨#[]⟩ : ByteArray), .slice none 0 0, .slice none 0 0]) (t := 25) ?hr ?_; (case hd => rfl); (case hg => rfl); (case hr => first | (go_simp; done) | (go_simp; rfl)); intro gb267 hg w10 hbox hb; have BK267 := Aside0.mk (hbox); have GW267 := Aside0.mk ((by rw [hg]; exact (below_size (by repeat (first | (with_reducible first | exact HB.out | apply below_alloc | apply pw_below_drewN | apply below_drew1 | refine below_set ?_ GE266.out) | exact HB.out))) : w.heap.size ≤ gb267)); have GE267 := Aside0.mk ((by rw [hg]; exact (below_size (by repeat (first | (with_reducible first | exact HB.out | apply below_alloc | apply pw_below_drewN | apply below_drew1 | refine below_set ?_ GE266.out) | exact HB.out))) : w.heap.size ≤ gb267)); replace HB := Aside0.mk (below_step (by repeat (first | (with_reducible first | exact HB.out | apply below_alloc | apply pw_below_drewN | apply below_drew1 | refine below_set ?_ GE266.out) | exact HB.out)) hb); have NB266_267 := Aside0.mk ((by rw [hg]; exact Nat.ne_of_lt (blk_lt (g := gb266) (o := .cells #[.string (⟨#[]⟩ : ByteArray), .string (⟨#[]⟩ : ByteArray), .string (⟨#[]⟩ : ByteArray), .slice none 0 0, .slice none 0 0] 25 (0, 0)) (bk_ BK266)) : gb266 ≠ gb267)); have NB267_266 := Aside0.mk ((by rw [hg]; exact Nat.ne_of_gt (blk_lt (g := gb266) (o := .cells #[.string (⟨#[]⟩ : ByteArray), .string (⟨#[]⟩ : ByteArray), .string (⟨#[]⟩ : ByteArray), .slice none 0 0, .slice none 0 0] 25 (0, 0)) (bk_ BK266)) : gb267 ≠ gb266)); replace BK266 := Aside0.mk (blk_below (g := gb266) (o := .cells #[.string (⟨#[]⟩ : ByteArray), .string (⟨#[]⟩ : ByteArray), .string (⟨#[]⟩ : ByteArray), .slice none 0 0, .slice none 0 0] 25 (0, 0)) (bk_ BK266) hb); clear hb hbox hg; have hnb11 := NB267_266.out; have hnc11 := NB266_267.out; have hcz12_0 : w10.cell? ⟨gb267, 0, none⟩ = some (.string (⟨#[]⟩ : ByteArray)) := (blk_cell BK267.out 0).trans rfl; have hcz12_1 : w10.cell? ⟨gb267, 1, none⟩ = some (.string (⟨#[]⟩ : ByteArray)) := (blk_cell BK267.out 1).trans rfl; have hcz12_2 : w10.cell? ⟨gb267, 2, none⟩ = some (.string (⟨#[]⟩ : ByteArray)) := (blk_cell BK267.out 2).trans rfl; have hcz12_3 : w10.cell? ⟨gb267, 3, none⟩ = some (.slice none 0 0) := (blk_cell BK267.out 3).trans rfl; have hcz12_4 : w10.cell? ⟨gb267, 4, none⟩ = some (.slice none 0 0) := (blk_cell BK267.out 4).trans rfl; have hfz12_0 := blk_frozen BK267.out 0; have hfz12_1 := blk_frozen BK267.out 1; have hfz12_2 := blk_frozen BK267.out 2; have hfz12_3 := blk_frozen BK267.out 3; have hfz12_4 := blk_frozen BK267.out 4; have p268 : 0 ≤ (0 : Int) := (by omega); have q268 : 0 < (l0.length : Int) := of_decide_eq_true (by first | (with_reducible assumption) | assumption); obtain ⟨ad268, e268, hx268_0⟩ := Kd.at_string HR0.out 0 p268 q268; cases e268; have qi268 : (0 < l0.length) = True := eq_true (by omega); (try rw [show ((0 : Int)).toNat = 0 from rfl] at hx268_0); (try rw [Addr.add_zero'] at hx268_0); have hn268_0 : ad268.block ≠ gb267 := Nat.ne_of_lt (Nat.lt_of_lt_of_le (by have := World.block_lt_of_cell? _ _ hx268_0; first | rwa [add_block] at this | exact this) GW267.out); have hn268_1 : ad268.block ≠ gb267 := Nat.ne_of_lt (Nat.lt_of_lt_of_le (by have := World.block_lt_of_cell? _ _ hx268_0; first | rwa [add_block] at this | exact this) GW267.out); have hn268_2 : ad268.block ≠ gb267 := Nat.ne_of_lt (Nat.lt_of_lt_of_le (by have := World.block_lt_of_cell? _ _ hx268_0; first | rwa [add_block] at this | exact this) GW267.out); have hn268_3 : ad268.block ≠ gb267 := Nat.ne_of_lt (Nat.lt_of_lt_of_le (by have := World.block_lt_of_cell? _ _ hx268_0; first | rwa [add_block] at this | exact this) GW267.out); have hn268_4 : ad268.block ≠ gb267 := Nat.ne_of_lt (Nat.lt_of_lt_of_le (by have := World.block_lt_of_cell? _ _ hx268_0; first | rwa [add_block] at this | exact this) GW267.out); replace hx268_0 := (HB.out.cell (World.block_lt_of_cell? w _ hx268_0)).trans hx268_0; replace hx268_0 := (cell_far (p := ⟨gb267, 0, none⟩) (by first | (rw [add_block]; exact hn268_0) | (show (Addr.add _ _).block ≠ _; rw [add_block]; exact hn268_0) | exact hn268_0) (.string (⟨#[]⟩ : ByteArray))).trans hx268_0; replace hx268_0 := (cell_far (p := ⟨gb267, 1, none⟩) (by first | (rw [add_block]; exact hn268_1) | (show (Addr.add _ _).block ≠ _; rw [add_block]; exact hn268_1) | exact hn268_1) (.string (⟨#[]⟩ : ByteArray))).trans hx268_0; replace hx268_0 := (cell_far (p := ⟨gb267, 2, none⟩) (by first | (rw [add_block]; exact hn268_2) | (show (Addr.add _ _).block ≠ _; rw [add_block]; exact hn268_2) | exact hn268_2) (.string (⟨#[]⟩ : ByteArray))).trans hx268_0; replace hx268_0 := (cell_far (p := ⟨gb267, 3, none⟩) (by first | (rw [add_block]; exact hn268_3) | (show (Addr.add _ _).block ≠ _; rw [add_block]; exact hn268_3) | exact hn268_3) (.slice none 0 0)).trans hx268_0; replace hx268_0 := (cell_far (p := ⟨gb267, 4, none⟩) (by first | (rw [add_block]; exact hn268_4) | (show (Addr.add _ _).block ≠ _; rw [add_block]; exact hn268_4) | exact hn268_4) (.slice none 0 0)).trans hx268_0; clear hn268_0; clear hn268_1; clear hn268_2; clear hn268_3; clear hn268_4; replace p268 := eq_true p268; replace q268 := eq_true q268) | ((with_reducible refine gate_callee (f := 28) rfl ?_); refine gb_ (some 17) Tryz.func28 #[.string (rdOf ByteArray.empty l0 0)] ?_; (with_reducible refine (idiomref07_lang.calls k (rdOf ByteArray.empty l0 0) true _ A5.out).mono ?_); rintro e w' ⟨rfl, ⟨nd, rfl⟩⟩; refine ⟨_, rfl, ?_⟩; have p270 : 0 ≤ (0 : Int) := (by omega); have q270 : 0 < (l0.length : Int) := of_decide_eq_true (by first | (with_reducible assumption) | assumption); obtain ⟨ad270, e270, hx270_0⟩ := Kd.at_string HR0.out 0 p270 q270; obtain rfl : ad268 = ad270 := (by injection e270); have qi270 : (0 < l0.length) = True := eq_true (by omega); (try rw [show ((0 : Int)).toNat = 0 from rfl] at hx270_0); (try rw [Addr.add_zero'] at hx270_0); have hn270_0 : ad268.block ≠ gb267 := Nat.ne_of_lt (Nat.lt_of_lt_of_le (by have := World.block_lt_of_cell? _ _ hx270_0; first | rwa [add_block] at this | exact this) GW267.out); have hn270_1 : ad268.block ≠ gb267 := Nat.ne_of_lt (Nat.lt_of_lt_of_le (by have := World.block_lt_of_cell? _ _ hx270_0; first | rwa [add_block] at this | exact this) GW267.out); have hn270_2 : ad268.block ≠ gb267 := Nat.ne_of_lt (Nat.lt_of_lt_of_le (by have := World.block_lt_of_cell? _ _ hx270_0; first | rwa [add_block] at this | exact this) GW267.out); have hn270_3 : ad268.block ≠ gb267 := Nat.ne_of_lt (Nat.lt_of_lt_of_le (by have := World.block_lt_of_cell? _ _ hx270_0; first | rwa [add_block] at this | exact this) GW267.out); have hn270_4 : ad268.block ≠ gb267 := Nat.ne_of_lt (Nat.lt_of_lt_of_le (by have := World.block_lt_of_cell? _ _ hx270_0; first | rwa [add_block] at this | exact this) GW267.out); replace hx270_0 := (HB.out.cell (World.block_lt_of_cell? w _ hx270_0)).trans hx270_0; replace hx270_0 := (cell_far (p := ⟨gb267, 0, none⟩) (by first | (rw [add_block]; exact hn270_0) | (show (Addr.add _ _).block ≠ _; rw [add_block]; exact hn270_0) | exact hn270_0) (.string (⟨#[]⟩ : ByteArray))).trans hx270_0; replace hx270_0 := (cell_far (p := ⟨gb267, 1, none⟩) (by first | (rw [add_block]; exact hn270_1) | (show (Addr.add _ _).block ≠ _; rw [add_block]; exact hn270_1) | exact hn270_1) (.string (⟨#[]⟩ : ByteArray))).trans hx270_0; replace hx270_0 := (cell_far (p := ⟨gb267, 2, none⟩) (by first | (rw [add_block]; exact hn270_2) | (show (Addr.add _ _).block ≠ _; rw [add_block]; exact hn270_2) | exact hn270_2) (.string (⟨#[]⟩ : ByteArray))).trans hx270_0; replace hx270_0 := (cell_far (p := ⟨gb267, 3, none⟩) (by first | (rw [add_block]; exact hn270_3) | (show (Addr.add _ _).block ≠ _; rw [add_block]; exact hn270_3) | exact hn270_3) (.slice none 0 0)).trans hx270_0; replace hx270_0 := (cell_far (p := ⟨gb267, 4, none⟩) (by first | (rw [add_block]; exact hn270_4) | (show (Addr.add _ _).block ≠ _; rw [add_block]; exact hn270_4) | exact hn270_4) (.slice none 0 0)).trans hx270_0; clear hn270_0; clear hn270_1; clear hn270_2; clear hn270_3; clear hn270_4; replace p270 := eq_true p270; replace q270 := eq_true q270) | ((with_reducible refine gate_callee (f := 29) rfl ?_); refine gb_ (some 23) Tryz.func29 #[.string (rdOf ByteArray.empty l0 0)] ?_; (with_reducible refine (idiomref07_Small.calls (rdOf ByteArray.empty l0 0) t271 _ A7.out).mono ?_); rintro e w13 ⟨rfl, hb⟩; refine ⟨_, rfl, ?_⟩; replace BK266 := Aside0.mk (blk_below (g := gb266) (o := .cells #[.string (⟨#[]⟩ : ByteArray), .string (⟨#[]⟩ : ByteArray), .string (⟨#[]⟩ : ByteArray), .slice none 0 0, .slice none 0 0] 25 (0, 0)) (by (with_reducible repeat (first | refine blk_drewN ?_ _ | refine blk_drew ?_ | refine blk_alloc ?_ _)); refine blk_far ?_ NB266_267.out _; (with_reducible repeat (first | refine blk_drewN ?_ _ | refine blk_drew ?_ | refine blk_alloc ?_ _)); refine blk_far ?_ NB266_267.out _; (with_reducible repeat (first | refine blk_drewN ?_ _ | refine blk_drew ?_ | refine blk_alloc ?_ _)); refine blk_far ?_ NB266_267.out _; (with_reducible repeat (first | refine blk_drewN ?_ _ | refine blk_drew ?_ | refine blk_alloc ?_ _)); refine blk_far ?_ NB266_267.out _; (with_reducible repeat (first | refine blk_drewN ?_ _ | refine blk_drew ?_ | refine blk_alloc ?_ _)); refine blk_far ?_ NB266_267.out _; (with_reducible repeat (first | refine blk_drewN ?_ _ | refine blk_drew ?_ | refine blk_alloc ?_ _)); exact BK266.out) hb); replace BK267 := Aside0.mk (blk_below (g := gb267) (o := .cells #[.string (⟨#[]⟩ : ByteArray), .string (⟨#[]⟩ : ByteArray), .string (⟨#[]⟩ : ByteArray), .slice none 0 0, .slice none 0 0] 25 (0, 0)) (by (with_reducible repeat (first | refine blk_drewN ?_ _ | refine blk_drew ?_ | refine blk_alloc ?_ _)); refine blk_put (cs := #[.string (⟨#[]⟩ : ByteArray), .string (⟨#[]⟩ : ByteArray), .string (⟨#[]⟩ : ByteArray), .slice none 0 0, .slice none 0 0]) ?_ 4 _ rfl; (with_reducible repeat (first | refine blk_drewN ?_ _ | refine blk_drew ?_ | refine blk_alloc ?_ _)); refine blk_put (cs := #[.string (⟨#[]⟩ : ByteArray), .string (⟨#[]⟩ : ByteArray), .string (⟨#[]⟩ : ByteArray), .slice none 0 0, .slice none 0 0]) ?_ 3 _ (by first | rfl | simp); (with_reducible repeat (first | refine blk_drewN ?_ _ | refine blk_drew ?_ | refine blk_alloc ?_ _)); refine blk_put (cs := #[.string (⟨#[]⟩ : ByteArray), .string (⟨#[]⟩ : ByteArray), .string (⟨#[]⟩ : ByteArray), .slice none 0 0, .slice none 0 0]) ?_ 2 _ rfl; (with_reducible repeat (first | refine blk_drewN ?_ _ | refine blk_drew ?_ | refine blk_alloc ?_ _)); refine blk_put (cs := #[.string (⟨#[]⟩ : ByteArray), .string (⟨#[]⟩ : ByteArray), .string (⟨#[]⟩ : ByteArray), .slice none 0 0, .slice none 0 0]) ?_ 1 _ rfl; (with_reducible repeat (first | refine blk_drewN ?_ _ | refine blk_drew ?_ | refine blk_alloc ?_ _)); refine blk_put (cs := #[.string (⟨#[]⟩ : ByteArray), .string (⟨#[]⟩ : ByteArray), .string (⟨#[]⟩ : ByteArray), .slice none 0 0, .slice none 0 0]) ?_ 0 _ rfl; (with_reducible repeat (first | refine blk_drewN ?_ _ | refine blk_drew ?_ | refine blk_alloc ?_ _)); exact BK267.out) hb); replace HB := Aside0.mk (below_step (by repeat (first | (with_reducible first | exact HB.out | apply below_alloc | apply pw_below_drewN | apply below_drew1 | refine below_set ?_ GE266.out | refine below_set ?_ GE267.out) | exact HB.out)) hb); (try clear hb); (try clear hb2); (try clear hk); (try clear hi)))
   (try simp only [Act.put, List.setIfInBounds_toArray, List.set_cons_zero, List.set_cons_succ])
   go_cut [] (fun wc => ∃ (kq : Nat) (x268000_7 : ByteArray), Aside0 (idiomref07_read.j0 kq l0 l1 a2 1 x268000_7 (⟨#[]⟩ : ByteArray) (⟨#[]⟩ : ByteArray) = some (r1, r2, r3, r4, r5, r6, r7)) ∧ Aside0 (kq ≤ k) ∧ Aside0 (wc.heap[gb266]? = some (.cells #[.string (⟨#[]⟩ : ByteArray), .string (⟨#[]⟩ : ByteArray), .string (⟨#[]⟩ : ByteArray), (.slice none 0 0), (.slice none 0 0)] 25 (0, 0))) ∧ Aside0 (wc.heap[gb267]? = some (.cells #[.string x268000_7, .string (⟨#[]⟩ : ByteArray), .string (⟨#[]⟩ : ByteArray), (.slice none 0 0), (.slice none 0 0)] 25 (0, 0))) ∧ Aside0 (Below w.heap.size w wc))
   case first =>
    have H := HC8.out
    clear HC8
    by_cases c14 : t271.toList = ([117, 110, 100] : List UInt8)
    ·rw [if_pos c14] at H
     have c14b0 : (t271.toList == ([117, 110, 100] : List UInt8)) = true := beq_iff_eq.mpr c14
     have c14b1 : (t271.toList != ([117, 110, 100] : List UInt8)) = false := bne_eq_false_iff_eq.mpr c14
     clear c14
     (first | rw [c14b0] | rw [c14b1] | rw [c14b2] | (simp only [i64_w, i32_w]; rw [c14b0]) | skip)
     (try simp only [Bool.not_true, Bool.not_false])
     have H' := Aside0.mk H
     clear H
     go_wp2
     go_meet
     case rel => exact ⟨_, ((⟨#[]⟩ : ByteArray)), H', ⟨by first | omega | exact Nat.le_refl _⟩, ⟨by (with_reducible repeat (first | refine blk_drewN ?_ _ | refine blk_drew ?_ | refine blk_alloc ?_ _)); exact BK266.out⟩, ⟨by (with_reducible repeat (first | refine blk_drewN ?_ _ | refine blk_drew ?_ | refine blk_alloc ?_ _)); exact BK267.out⟩, ⟨by repeat (first | (with_reducible first | exact HB.out | apply below_alloc | apply pw_below_drewN | apply below_drew1 | refine below_set ?_ GE266.out | refine below_set ?_ GE267.out) | exact HB.out)⟩⟩
    ·rw [if_neg c14] at H
     have c14b0 : (t271.toList == ([117, 110, 100] : List UInt8)) = false := beq_eq_false_iff_ne.mpr c14
     have c14b1 : (t271.toList != ([117, 110, 100] : List UInt8)) = true := bne_iff_ne.mpr c14
     (first | rw [c14b0] | rw [c14b1] | rw [c14b2] | (simp only [i64_w, i32_w]; rw [c14b0]) | skip)
     (try simp only [Bool.not_true, Bool.not_false])
     replace H := Option.bind_eq_some_iff.mp H
     obtain ⟨t273, A150, H⟩ := H
     try dsimp only at H
     have A15 := Aside0.mk A150
     clear A150
     have H' := Aside0.mk H
     clear H
     have p272 : 0 ≤ (0 : Int) := (by omega)
     have q272 : 0 < (l0.length : Int) := of_decide_eq_true (by first | (with_reducible assumption) | assumption)
     obtain ⟨ad272, e272, hx272_0⟩ := Kd.at_string HR0.out 0 p272 q272
     obtain rfl : ad268 = ad272 := (by injection e272)
     have qi272 : (0 < l0.length) = True := eq_true (by omega)
     (try rw [show ((0 : Int)).toNat = 0 from rfl] at hx272_0)
     (try rw [Addr.add_zero'] at hx272_0)
     replace hx272_0 := (HB.out.cell (World.block_lt_of_cell? w _ hx272_0)).trans hx272_0
     replace p272 := eq_true p272
     replace q272 := eq_true q272
     go_wp2_with (first | ((with_reducible refine gate_callee (f := 29) rfl ?_); refine gb_ (some 28) Tryz.func29 #[.string (rdOf ByteArray.empty l0 0)] ?_; (with_reducible refine (idiomref07_Small.calls (rdOf ByteArray.empty l0 0) t273 _ A15.out).mono ?_); rintro e w16 ⟨rfl, hb⟩; refine ⟨_, rfl, ?_⟩; replace BK266 := Aside0.mk (blk_below (g := gb266) (o := .cells #[.string (⟨#[]⟩ : ByteArray), .string (⟨#[]⟩ : ByteArray), .string (⟨#[]⟩ : ByteArray), .slice none 0 0, .slice none 0 0] 25 (0, 0)) (bk_ BK266) hb); replace BK267 := Aside0.mk (blk_below (g := gb267) (o := .cells #[.string (⟨#[]⟩ : ByteArray), .string (⟨#[]⟩ : ByteArray), .string (⟨#[]⟩ : ByteArray), .slice none 0 0, .slice none 0 0] 25 (0, 0)) (bk_ BK267) hb); replace HB := Aside0.mk (below_step (by repeat (first | (with_reducible first | exact HB.out | apply below_alloc | apply pw_below_drewN | apply below_drew1 | refine below_set ?_ GE266.out | refine below_set ?_ GE267.out) | exact HB.out)) hb); (try clear hb); (try clear hb2); (try clear hk); (try clear hi); have hnb17 := NB267_266.out; have hnc17 := NB266_267.out; have hcz18_0 : w16.cell? ⟨gb267, 0, none⟩ = some (.string (⟨#[]⟩ : ByteArray)) := (blk_cell BK267.out 0).trans rfl; have hcz18_1 : w16.cell? ⟨gb267, 1, none⟩ = some (.string (⟨#[]⟩ : ByteArray)) := (blk_cell BK267.out 1).trans rfl; have hcz18_2 : w16.cell? ⟨gb267, 2, none⟩ = some (.string (⟨#[]⟩ : ByteArray)) := (blk_cell BK267.out 2).trans rfl; have hcz18_3 : w16.cell? ⟨gb267, 3, none⟩ = some (.slice none 0 0) := (blk_cell BK267.out 3).trans rfl; have hcz18_4 : w16.cell? ⟨gb267, 4, none⟩ = some (.slice none 0 0) := (blk_cell BK267.out 4).trans rfl; have hfz18_0 := blk_frozen BK267.out 0; have hfz18_1 := blk_frozen BK267.out 1; have hfz18_2 := blk_frozen BK267.out 2; have hfz18_3 := blk_frozen BK267.out 3; have hfz18_4 := blk_frozen BK267.out 4))
     go_meet
     case rel => exact ⟨_, (t273), H', ⟨by first | omega | exact Nat.le_refl _⟩, ⟨by (with_reducible repeat (first | refine blk_drewN ?_ _ | refine blk_drew ?_ | refine blk_alloc ?_ _)); refine blk_far ?_ NB266_267.out _; (with_reducible repeat (first | refine blk_drewN ?_ _ | refine blk_drew ?_ | refine blk_alloc ?_ _)); exact BK266.out⟩, ⟨by (with_reducible repeat (first | refine blk_drewN ?_ _ | refine blk_drew ?_ | refine blk_alloc ?_ _)); refine blk_put (cs := #[.string (⟨#[]⟩ : ByteArray), .string (⟨#[]⟩ : ByteArray), .string (⟨#[]⟩ : ByteArray), .slice none 0 0, .slice none 0 0]) ?_ 0 _ rfl; (with_reducible repeat (first | refine blk_drewN ?_ _ | refine blk_drew ?_ | refine blk_alloc ?_ _)); exact BK267.out⟩, ⟨by repeat (first | (with_reducible first | exact HB.out | apply below_alloc | apply pw_below_drewN | apply below_drew1 | refine below_set ?_ GE266.out | refine below_set ?_ GE267.out) | exact HB.out)⟩⟩
   case rest =>
    clear HC8
    clear c4b0 c4b1 hcz12_0 hcz12_1 hcz12_2 hcz12_3 hcz12_4 hfz12_0 hfz12_1 hfz12_2 hfz12_3 hfz12_4 hx268_0 hx270_0 p268 p270 q268 q270
    obtain ⟨kq, x268000_7, HA, HJ7, BK266, BK267, HB⟩ := hcut
    cases kq with
    | zero => exact absurd HA.out (by simp [idiomref07_read.j0])
    | succ kj7 =>
     have H := HA.out
     clear HA
     simp only [idiomref07_read.j0] at H
     have HC19 := Aside0.mk H
     clear H
     go_upto_region 6 with (fail)
     go_cut [40] (fun v40 wc => ∃ (kq : Nat) (x40_18 : Bool), v40 = .bool x40_18 ∧ Aside0 (idiomref07_read.j1 kq l0 l1 a2 1 x40_18 x268000_7 (⟨#[]⟩ : ByteArray) (⟨#[]⟩ : ByteArray) = some (r1, r2, r3, r4, r5, r6, r7)) ∧ Aside0 (kq ≤ kj7) ∧ Aside0 (wc.heap[gb266]? = some (.cells #[.string (⟨#[]⟩ : ByteArray), .string (⟨#[]⟩ : ByteArray), .string (⟨#[]⟩ : ByteArray), (.slice none 0 0), (.slice none 0 0)] 25 (0, 0))) ∧ Aside0 (wc.heap[gb267]? = some (.cells #[.string x268000_7, .string (⟨#[]⟩ : ByteArray), .string (⟨#[]⟩ : ByteArray), (.slice none 0 0), (.slice none 0 0)] 25 (0, 0))) ∧ Aside0 (Below w.heap.size w wc))
     case first =>
      have H := HC19.out
      clear HC19
      by_cases c20 : 1 < (l0.length : Int)
      ·rw [if_pos c20] at H
       have c20b0 : decide (1 < (l0.length : Int)) = true := decide_eq_true c20
       have c20b1 : decide (1 < l0.length) = true := decide_eq_true (by omega)
       clear c20
       (first | rw [c20b0] | rw [c20b1] | rw [c20b2] | (simp only [i64_w, i32_w]; rw [c20b0]) | skip)
       (try simp only [Bool.not_true, Bool.not_false])
       by_cases c21 : (0 : Int) ≤ 1
       ·rw [if_pos c21] at H
        have c21b0 : decide ((0 : Int) ≤ 1) = true := decide_eq_true c21
        clear c21
        replace H := Option.bind_eq_some_iff.mp H
        obtain ⟨t275, A220, H⟩ := H
        try dsimp only at H
        have A22 := Aside0.mk A220
        clear A220
        have H' := Aside0.mk H
        clear H
        have p274 : 0 ≤ (1 : Int) := (by omega)
        have q274 : 1 < (l0.length : Int) := of_decide_eq_true (by first | (with_reducible assumption) | assumption)
        obtain ⟨ad274, e274, hx274_0⟩ := Kd.at_string HR0.out 1 p274 q274
        obtain rfl : ad268 = ad274 := (by injection e274)
        (try simp only [show (1 : Int).toNat = 1 from rfl, Nat.reduceMul, Nat.reduceEqDiff, Go.Addr.add, ↓reduceIte] at hx274_0)
        have qi274 : (1 < l0.length) = True := eq_true (by omega)
        (try rw [show ((1 : Int)).toNat = 1 from rfl] at hx274_0)
        replace hx274_0 := (HB.out.cell (World.block_lt_of_cell? w _ hx274_0)).trans hx274_0
        replace p274 := eq_true p274
        replace q274 := eq_true q274
        go_wp2_with (first | (go_at_call 30; (with_reducible refine (idiomref07_script.calls kj7 (rdOf ByteArray.empty l0 1) t275 _ A22.out).mono ?_); rintro e w' ⟨rfl, ⟨nd, rfl⟩⟩))
        go_meet
        case rel => exact ⟨_, (t275), (by first | rfl | (simp; done) | exact congrArg (Value.int .i64) (by unfold wrap64; omega) | (simp [*]; done)), H', ⟨by have := HJ7.out; first | omega | exact Nat.le_refl _⟩, ⟨by (with_reducible repeat (first | refine blk_drewN ?_ _ | refine blk_drew ?_ | refine blk_alloc ?_ _)); exact BK266.out⟩, ⟨by (with_reducible repeat (first | refine blk_drewN ?_ _ | refine blk_drew ?_ | refine blk_alloc ?_ _)); exact BK267.out⟩, ⟨by repeat (first | (with_reducible first | exact HB.out | apply below_alloc | apply pw_below_drewN | apply below_drew1 | refine below_set ?_ GE266.out | refine below_set ?_ GE267.out) | exact HB.out)⟩⟩
       ·rw [if_neg c21] at H
        exact absurd H (by simp)
      ·rw [if_neg c20] at H
       have c20b0 : decide (1 < (l0.length : Int)) = false := decide_eq_false c20
       have c20b1 : decide (1 < l0.length) = false := decide_eq_false (by omega)
       clear c20
       (first | rw [c20b0] | rw [c20b1] | rw [c20b2] | (simp only [i64_w, i32_w]; rw [c20b0]) | skip)
       (try simp only [Bool.not_true, Bool.not_false])
       have H' := Aside0.mk H
       clear H
       go_wp2
       go_meet
       case rel => exact ⟨_, (false), (by first | rfl | (simp; done) | exact congrArg (Value.int .i64) (by unfold wrap64; omega) | (simp [*]; done)), H', ⟨by have := HJ7.out; first | omega | exact Nat.le_refl _⟩, ⟨by (with_reducible repeat (first | refine blk_drewN ?_ _ | refine blk_drew ?_ | refine blk_alloc ?_ _)); exact BK266.out⟩, ⟨by (with_reducible repeat (first | refine blk_drewN ?_ _ | refine blk_drew ?_ | refine blk_alloc ?_ _)); exact BK267.out⟩, ⟨by repeat (first | (with_reducible first | exact HB.out | apply below_alloc | apply pw_below_drewN | apply below_drew1 | refine below_set ?_ GE266.out | refine below_set ?_ GE267.out) | exact HB.out)⟩⟩
     case rest =>
      clear HC19
      obtain ⟨kq, x40_18, rfl, HA, HJ18, BK266, BK267, HB⟩ := hcut
      cases kq with
      | zero => exact absurd HA.out (by simp [idiomref07_read.j1])
      | succ kj18 =>
       have H := HA.out
       clear HA
       simp only [idiomref07_read.j1] at H
       have HC23 := Aside0.mk H
       clear H
       go_upto_if 40 with (fail)
       go_cut [10] (fun v10 wc => ∃ (kq : Nat) (x10_22 : Int) (x268001_22 : ByteArray), v10 = .int .i64 x10_22 ∧ Aside0 (idiomref07_read.j2 kq l0 l1 a2 x10_22 x268000_7 x268001_22 (⟨#[]⟩ : ByteArray) = some (r1, r2, r3, r4, r5, r6, r7)) ∧ Aside0 (kq ≤ kj18) ∧ Aside0 (wc.heap[gb266]? = some (.cells #[.string (⟨#[]⟩ : ByteArray), .string (⟨#[]⟩ : ByteArray), .string (⟨#[]⟩ : ByteArray), (.slice none 0 0), (.slice none 0 0)] 25 (0, 0))) ∧ Aside0 (wc.heap[gb267]? = some (.cells #[.string x268000_7, .string x268001_22, .string (⟨#[]⟩ : ByteArray), (.slice none 0 0), (.slice none 0 0)] 25 (0, 0))) ∧ Aside0 (Below w.heap.size w wc))
       case first =>
        have H := HC23.out
        clear HC23
        by_cases c24 : x40_18 = true
        ·subst c24
         have H1 : (if (0 : Int) ≤ 1 then (if 1 < (l0.length : Int) then ((idiomref07_title.f (rdOf ByteArray.empty l0 1)).bind fun t277 => (idiomref07_read.j2 kj18 l0 l1 a2 (wrap64 (1 + 1)) x268000_7 t277 (⟨#[]⟩ : ByteArray))) else (none)) else (none)) = some (r1, r2, r3, r4, r5, r6, r7) := by rw [if_pos rfl] at H; exact H
         clear H
         have H := H1
         clear H1
         by_cases c25 : (0 : Int) ≤ 1
         ·rw [if_pos c25] at H
          have c25b0 : decide ((0 : Int) ≤ 1) = true := decide_eq_true c25
          clear c25
          (first | rw [c25b0] | rw [c25b1] | rw [c25b2] | (simp only [i64_w, i32_w]; rw [c25b0]) | skip)
          (try simp only [Bool.not_true, Bool.not_false])
          by_cases c26 : 1 < (l0.length : Int)
          ·rw [if_pos c26] at H
           have c26b0 : decide (1 < (l0.length : Int)) = true := decide_eq_true c26
           have c26b1 : decide (1 < l0.length) = true := decide_eq_true (by omega)
           clear c26
           replace H := Option.bind_eq_some_iff.mp H
           obtain ⟨t277, A270, H⟩ := H
           try dsimp only at H
           have A27 := Aside0.mk A270
           clear A270
           have H' := Aside0.mk H
           clear H
           have p276 : 0 ≤ (1 : Int) := (by omega)
           have q276 : 1 < (l0.length : Int) := of_decide_eq_true (by first | (with_reducible assumption) | assumption)
           obtain ⟨ad276, e276, hx276_0⟩ := Kd.at_string HR0.out 1 p276 q276
           obtain rfl : ad268 = ad276 := (by injection e276)
           (try simp only [show (1 : Int).toNat = 1 from rfl, Nat.reduceMul, Nat.reduceEqDiff, Go.Addr.add, ↓reduceIte] at hx276_0)
           have qi276 : (1 < l0.length) = True := eq_true (by omega)
           (try rw [show ((1 : Int)).toNat = 1 from rfl] at hx276_0)
           replace hx276_0 := (HB.out.cell (World.block_lt_of_cell? w _ hx276_0)).trans hx276_0
           replace p276 := eq_true p276
           replace q276 := eq_true q276
           go_wp2_with (first | ((with_reducible refine gate_callee (f := 31) rfl ?_); refine gb_ (some 45) Tryz.func31 #[.string (rdOf ByteArray.empty l0 1)] ?_; (with_reducible refine (idiomref07_title.calls (rdOf ByteArray.empty l0 1) t277 _ A27.out).mono ?_); rintro e w28 ⟨rfl, hb⟩; refine ⟨_, rfl, ?_⟩; replace BK266 := Aside0.mk (blk_below (g := gb266) (o := .cells #[.string (⟨#[]⟩ : ByteArray), .string (⟨#[]⟩ : ByteArray), .string (⟨#[]⟩ : ByteArray), .slice none 0 0, .slice none 0 0] 25 (0, 0)) (bk_ BK266) hb); replace BK267 := Aside0.mk (blk_below (g := gb267) (o := .cells #[.string x268000_7, .string (⟨#[]⟩ : ByteArray), .string (⟨#[]⟩ : ByteArray), .slice none 0 0, .slice none 0 0] 25 (0, 0)) (bk_ BK267) hb); replace HB := Aside0.mk (below_step (by repeat (first | (with_reducible first | exact HB.out | apply below_alloc | apply pw_below_drewN | apply below_drew1 | refine below_set ?_ GE266.out | refine below_set ?_ GE267.out) | exact HB.out)) hb); (try clear hb); (try clear hb2); (try clear hk); (try clear hi); have hnb29 := NB267_266.out; have hnc29 := NB266_267.out; have hcz30_0 : w28.cell? ⟨gb267, 0, none⟩ = some (.string x268000_7) := (blk_cell BK267.out 0).trans rfl; have hcz30_1 : w28.cell? ⟨gb267, 1, none⟩ = some (.string (⟨#[]⟩ : ByteArray)) := (blk_cell BK267.out 1).trans rfl; have hcz30_2 : w28.cell? ⟨gb267, 2, none⟩ = some (.string (⟨#[]⟩ : ByteArray)) := (blk_cell BK267.out 2).trans rfl; have hcz30_3 : w28.cell? ⟨gb267, 3, none⟩ = some (.slice none 0 0) := (blk_cell BK267.out 3).trans rfl; have hcz30_4 : w28.cell? ⟨gb267, 4, none⟩ = some (.slice none 0 0) := (blk_cell BK267.out 4).trans rfl; have hfz30_0 := blk_frozen BK267.out 0; have hfz30_1 := blk_frozen BK267.out 1; have hfz30_2 := blk_frozen BK267.out 2; have hfz30_3 := blk_frozen BK267.out 3; have hfz30_4 := blk_frozen BK267.out 4))
           go_meet
           case rel => exact ⟨_, (wrap64 (1 + 1)), (t277), (by first | rfl | (simp; done) | exact congrArg (Value.int .i64) (by unfold wrap64; omega) | (simp [*]; done)), H', ⟨by have := HJ7.out; have := HJ18.out; first | omega | exact Nat.le_refl _⟩, ⟨by (with_reducible repeat (first | refine blk_drewN ?_ _ | refine blk_drew ?_ | refine blk_alloc ?_ _)); refine blk_far ?_ NB266_267.out _; (with_reducible repeat (first | refine blk_drewN ?_ _ | refine blk_drew ?_ | refine blk_alloc ?_ _)); exact BK266.out⟩, ⟨by (with_reducible repeat (first | refine blk_drewN ?_ _ | refine blk_drew ?_ | refine blk_alloc ?_ _)); refine blk_put (cs := #[.string x268000_7, .string (⟨#[]⟩ : ByteArray), .string (⟨#[]⟩ : ByteArray), .slice none 0 0, .slice none 0 0]) ?_ 1 _ rfl; (with_reducible repeat (first | refine blk_drewN ?_ _ | refine blk_drew ?_ | refine blk_alloc ?_ _)); exact BK267.out⟩, ⟨by repeat (first | (with_reducible first | exact HB.out | apply below_alloc | apply pw_below_drewN | apply below_drew1 | refine below_set ?_ GE266.out | refine below_set ?_ GE267.out) | exact HB.out)⟩⟩
          ·rw [if_neg c26] at H
           exact absurd H (by simp)
         ·rw [if_neg c25] at H
          exact absurd H (by simp)
        ·replace c24 := Bool.eq_false_iff.mpr c24
         subst c24
         have H1 : (idiomref07_read.j2 kj18 l0 l1 a2 1 x268000_7 (⟨#[]⟩ : ByteArray) (⟨#[]⟩ : ByteArray)) = some (r1, r2, r3, r4, r5, r6, r7) := by rw [if_neg (show ¬ (false = true) by decide)] at H; exact H
         clear H
         have H := H1
         clear H1
         have H' := Aside0.mk H
         clear H
         go_wp2
         go_meet
         case rel => exact ⟨_, (1), ((⟨#[]⟩ : ByteArray)), (by first | rfl | (simp; done) | exact congrArg (Value.int .i64) (by unfold wrap64; omega) | (simp [*]; done)), H', ⟨by have := HJ7.out; have := HJ18.out; first | omega | exact Nat.le_refl _⟩, ⟨by (with_reducible repeat (first | refine blk_drewN ?_ _ | refine blk_drew ?_ | refine blk_alloc ?_ _)); exact BK266.out⟩, ⟨by (with_reducible repeat (first | refine blk_drewN ?_ _ | refine blk_drew ?_ | refine blk_alloc ?_ _)); exact BK267.out⟩, ⟨by repeat (first | (with_reducible first | exact HB.out | apply below_alloc | apply pw_below_drewN | apply below_drew1 | refine below_set ?_ GE266.out | refine below_set ?_ GE267.out) | exact HB.out)⟩⟩
       case rest =>
        clear HC23
        obtain ⟨kq, x10_22, x268001_22, rfl, HA, HJ22, BK266, BK267, HB⟩ := hcut
        cases kq with
        | zero => exact absurd HA.out (by simp [idiomref07_read.j2])
        | succ kj22 =>
         have H := HA.out
         clear HA
         simp only [idiomref07_read.j2] at H
         have HC31 := Aside0.mk H
         clear H
         go_upto_region 9 with (fail)
         go_cut [59] (fun v59 wc => ∃ (kq : Nat) (x59_30 : Bool), v59 = .bool x59_30 ∧ Aside0 (idiomref07_read.j3 kq l0 l1 a2 x10_22 x59_30 x268000_7 x268001_22 (⟨#[]⟩ : ByteArray) = some (r1, r2, r3, r4, r5, r6, r7)) ∧ Aside0 (kq ≤ kj22) ∧ Aside0 (wc.heap[gb266]? = some (.cells #[.string (⟨#[]⟩ : ByteArray), .string (⟨#[]⟩ : ByteArray), .string (⟨#[]⟩ : ByteArray), (.slice none 0 0), (.slice none 0 0)] 25 (0, 0))) ∧ Aside0 (wc.heap[gb267]? = some (.cells #[.string x268000_7, .string x268001_22, .string (⟨#[]⟩ : ByteArray), (.slice none 0 0), (.slice none 0 0)] 25 (0, 0))) ∧ Aside0 (Below w.heap.size w wc))
         case first =>
          have H := HC31.out
          clear HC31
          by_cases c32 : x10_22 < (l0.length : Int)
          ·rw [if_pos c32] at H
           have c32b0 : decide (x10_22 < (l0.length : Int)) = true := decide_eq_true c32
           clear c32
           (first | rw [c32b0] | rw [c32b1] | rw [c32b2] | (simp only [i64_w, i32_w]; rw [c32b0]) | skip)
           (try simp only [Bool.not_true, Bool.not_false])
           by_cases c33 : 0 ≤ x10_22
           ·rw [if_pos c33] at H
            have c33b0 : decide (0 ≤ x10_22) = true := decide_eq_true c33
            clear c33
            replace H := Option.bind_eq_some_iff.mp H
            obtain ⟨t279, A340, H⟩ := H
            try dsimp only at H
            have A34 := Aside0.mk A340
            clear A340
            have H' := Aside0.mk H
            clear H
            have p278 : 0 ≤ (x10_22 : Int) := of_decide_eq_true (by first | (with_reducible assumption) | assumption)
            have q278 : x10_22 < (l0.length : Int) := of_decide_eq_true (by first | (with_reducible assumption) | assumption)
            obtain ⟨ad278, e278, hx278_0⟩ := Kd.at_string HR0.out x10_22 p278 q278
            obtain rfl : ad268 = ad278 := (by injection e278)
            replace hx278_0 := (HB.out.cell (World.block_lt_of_cell? w _ hx278_0)).trans hx278_0
            replace p278 := eq_true p278
            replace q278 := eq_true q278
            go_wp2_with (first | (go_at_call 32; (with_reducible refine (idiomref07_region.calls kj22 (rdOf ByteArray.empty l0 x10_22) t279 _ A34.out).mono ?_); rintro e w' ⟨rfl, ⟨nd, rfl⟩⟩))
            go_meet
            case rel => exact ⟨_, (t279), (by first | rfl | (simp; done) | exact congrArg (Value.int .i64) (by unfold wrap64; omega) | (simp [*]; done)), H', ⟨by have := HJ7.out; have := HJ18.out; have := HJ22.out; first | omega | exact Nat.le_refl _⟩, ⟨by (with_reducible repeat (first | refine blk_drewN ?_ _ | refine blk_drew ?_ | refine blk_alloc ?_ _)); exact BK266.out⟩, ⟨by (with_reducible repeat (first | refine blk_drewN ?_ _ | refine blk_drew ?_ | refine blk_alloc ?_ _)); exact BK267.out⟩, ⟨by repeat (first | (with_reducible first | exact HB.out | apply below_alloc | apply pw_below_drewN | apply below_drew1 | refine below_set ?_ GE266.out | refine below_set ?_ GE267.out) | exact HB.out)⟩⟩
           ·rw [if_neg c33] at H
            exact absurd H (by simp)
          ·rw [if_neg c32] at H
           have c32b0 : decide (x10_22 < (l0.length : Int)) = false := decide_eq_false c32
           clear c32
           (first | rw [c32b0] | rw [c32b1] | rw [c32b2] | (simp only [i64_w, i32_w]; rw [c32b0]) | skip)
           (try simp only [Bool.not_true, Bool.not_false])
           have H' := Aside0.mk H
           clear H
           go_wp2
           go_meet
           case rel => exact ⟨_, (false), (by first | rfl | (simp; done) | exact congrArg (Value.int .i64) (by unfold wrap64; omega) | (simp [*]; done)), H', ⟨by have := HJ7.out; have := HJ18.out; have := HJ22.out; first | omega | exact Nat.le_refl _⟩, ⟨by (with_reducible repeat (first | refine blk_drewN ?_ _ | refine blk_drew ?_ | refine blk_alloc ?_ _)); exact BK266.out⟩, ⟨by (with_reducible repeat (first | refine blk_drewN ?_ _ | refine blk_drew ?_ | refine blk_alloc ?_ _)); exact BK267.out⟩, ⟨by repeat (first | (with_reducible first | exact HB.out | apply below_alloc | apply pw_below_drewN | apply below_drew1 | refine below_set ?_ GE266.out | refine below_set ?_ GE267.out) | exact HB.out)⟩⟩
         case rest =>
          clear HC31
          obtain ⟨kq, x59_30, rfl, HA, HJ30, BK266, BK267, HB⟩ := hcut
          cases kq with
          | zero => exact absurd HA.out (by simp [idiomref07_read.j3])
          | succ kj30 =>
           have H := HA.out
           clear HA
           simp only [idiomref07_read.j3] at H
           have HC35 := Aside0.mk H
           clear H
           go_upto_if 59 with (fail)
           go_cut [10] (fun v10 wc => ∃ (kq : Nat) (x10_34 : Int) (x268002_34 : ByteArray), v10 = .int .i64 x10_34 ∧ Aside0 (idiomref07_read.j4 kq l0 l1 a2 x10_34 x268000_7 x268001_22 x268002_34 = some (r1, r2, r3, r4, r5, r6, r7)) ∧ Aside0 (kq ≤ kj30) ∧ Aside0 (wc.heap[gb266]? = some (.cells #[.string (⟨#[]⟩ : ByteArray), .string (⟨#[]⟩ : ByteArray), .string (⟨#[]⟩ : ByteArray), (.slice none 0 0), (.slice none 0 0)] 25 (0, 0))) ∧ Aside0 (wc.heap[gb267]? = some (.cells #[.string x268000_7, .string x268001_22, .string x268002_34, (.slice none 0 0), (.slice none 0 0)] 25 (0, 0))) ∧ Aside0 (Below w.heap.size w wc))
           case first =>
            have H := HC35.out
            clear HC35
            by_cases c36 : x59_30 = true
            ·subst c36
             have H1 : (if 0 ≤ x10_22 then (if x10_22 < (l0.length : Int) then ((idiomref07_great.f (rdOf ByteArray.empty l0 x10_22)).bind fun t281 => (idiomref07_read.j4 kj30 l0 l1 a2 (wrap64 (x10_22 + 1)) x268000_7 x268001_22 t281)) else (none)) else (none)) = some (r1, r2, r3, r4, r5, r6, r7) := by rw [if_pos rfl] at H; exact H
             clear H
             have H := H1
             clear H1
             by_cases c37 : 0 ≤ x10_22
             ·rw [if_pos c37] at H
              have c37b0 : decide (0 ≤ x10_22) = true := decide_eq_true c37
              clear c37
              (first | rw [c37b0] | rw [c37b1] | rw [c37b2] | (simp only [i64_w, i32_w]; rw [c37b0]) | skip)
              (try simp only [Bool.not_true, Bool.not_false])
              by_cases c38 : x10_22 < (l0.length : Int)
              ·rw [if_pos c38] at H
               have c38b0 : decide (x10_22 < (l0.length : Int)) = true := decide_eq_true c38
               clear c38
               replace H := Option.bind_eq_some_iff.mp H
               obtain ⟨t281, A390, H⟩ := H
               try dsimp only at H
               have A39 := Aside0.mk A390
               clear A390
               have H' := Aside0.mk H
               clear H
               have p280 : 0 ≤ (x10_22 : Int) := of_decide_eq_true (by first | (with_reducible assumption) | assumption)
               have q280 : x10_22 < (l0.length : Int) := of_decide_eq_true (by first | (with_reducible assumption) | assumption)
               obtain ⟨ad280, e280, hx280_0⟩ := Kd.at_string HR0.out x10_22 p280 q280
               obtain rfl : ad268 = ad280 := (by injection e280)
               replace hx280_0 := (HB.out.cell (World.block_lt_of_cell? w _ hx280_0)).trans hx280_0
               replace p280 := eq_true p280
               replace q280 := eq_true q280
               go_wp2_with (first | ((with_reducible refine gate_callee (f := 33) rfl ?_); refine gb_ (some 64) Tryz.func33 #[.string (rdOf ByteArray.empty l0 x10_22)] ?_; (with_reducible refine (idiomref07_great.calls (rdOf ByteArray.empty l0 x10_22) t281 _ A39.out).mono ?_); rintro e w40 ⟨rfl, hb⟩; refine ⟨_, rfl, ?_⟩; replace BK266 := Aside0.mk (blk_below (g := gb266) (o := .cells #[.string (⟨#[]⟩ : ByteArray), .string (⟨#[]⟩ : ByteArray), .string (⟨#[]⟩ : ByteArray), .slice none 0 0, .slice none 0 0] 25 (0, 0)) (bk_ BK266) hb); replace BK267 := Aside0.mk (blk_below (g := gb267) (o := .cells #[.string x268000_7, .string x268001_22, .string (⟨#[]⟩ : ByteArray), .slice none 0 0, .slice none 0 0] 25 (0, 0)) (bk_ BK267) hb); replace HB := Aside0.mk (below_step (by repeat (first | (with_reducible first | exact HB.out | apply below_alloc | apply pw_below_drewN | apply below_drew1 | refine below_set ?_ GE266.out | refine below_set ?_ GE267.out) | exact HB.out)) hb); (try clear hb); (try clear hb2); (try clear hk); (try clear hi); have hnb41 := NB267_266.out; have hnc41 := NB266_267.out; have hcz42_0 : w40.cell? ⟨gb267, 0, none⟩ = some (.string x268000_7) := (blk_cell BK267.out 0).trans rfl; have hcz42_1 : w40.cell? ⟨gb267, 1, none⟩ = some (.string x268001_22) := (blk_cell BK267.out 1).trans rfl; have hcz42_2 : w40.cell? ⟨gb267, 2, none⟩ = some (.string (⟨#[]⟩ : ByteArray)) := (blk_cell BK267.out 2).trans rfl; have hcz42_3 : w40.cell? ⟨gb267, 3, none⟩ = some (.slice none 0 0) := (blk_cell BK267.out 3).trans rfl; have hcz42_4 : w40.cell? ⟨gb267, 4, none⟩ = some (.slice none 0 0) := (blk_cell BK267.out 4).trans rfl; have hfz42_0 := blk_frozen BK267.out 0; have hfz42_1 := blk_frozen BK267.out 1; have hfz42_2 := blk_frozen BK267.out 2; have hfz42_3 := blk_frozen BK267.out 3; have hfz42_4 := blk_frozen BK267.out 4))
               go_meet
               case rel => exact ⟨_, (wrap64 (x10_22 + 1)), (t281), (by first | rfl | (simp; done) | exact congrArg (Value.int .i64) (by unfold wrap64; omega) | (simp [*]; done)), H', ⟨by have := HJ7.out; have := HJ18.out; have := HJ22.out; have := HJ30.out; first | omega | exact Nat.le_refl _⟩, ⟨by (with_reducible repeat (first | refine blk_drewN ?_ _ | refine blk_drew ?_ | refine blk_alloc ?_ _)); refine blk_far ?_ NB266_267.out _; (with_reducible repeat (first | refine blk_drewN ?_ _ | refine blk_drew ?_ | refine blk_alloc ?_ _)); exact BK266.out⟩, ⟨by (with_reducible repeat (first | refine blk_drewN ?_ _ | refine blk_drew ?_ | refine blk_alloc ?_ _)); refine blk_put (cs := #[.string x268000_7, .string x268001_22, .string (⟨#[]⟩ : ByteArray), .slice none 0 0, .slice none 0 0]) ?_ 2 _ rfl; (with_reducible repeat (first | refine blk_drewN ?_ _ | refine blk_drew ?_ | refine blk_alloc ?_ _)); exact BK267.out⟩, ⟨by repeat (first | (with_reducible first | exact HB.out | apply below_alloc | apply pw_below_drewN | apply below_drew1 | refine below_set ?_ GE266.out | refine below_set ?_ GE267.out) | exact HB.out)⟩⟩
              ·rw [if_neg c38] at H
               exact absurd H (by simp)
             ·rw [if_neg c37] at H
              exact absurd H (by simp)
            ·replace c36 := Bool.eq_false_iff.mpr c36
             subst c36
             have H1 : (idiomref07_read.j4 kj30 l0 l1 a2 x10_22 x268000_7 x268001_22 (⟨#[]⟩ : ByteArray)) = some (r1, r2, r3, r4, r5, r6, r7) := by rw [if_neg (show ¬ (false = true) by decide)] at H; exact H
             clear H
             have H := H1
             clear H1
             have H' := Aside0.mk H
             clear H
             go_wp2
             go_meet
             case rel => exact ⟨_, (x10_22), ((⟨#[]⟩ : ByteArray)), (by first | rfl | (simp; done) | exact congrArg (Value.int .i64) (by unfold wrap64; omega) | (simp [*]; done)), H', ⟨by have := HJ7.out; have := HJ18.out; have := HJ22.out; have := HJ30.out; first | omega | exact Nat.le_refl _⟩, ⟨by (with_reducible repeat (first | refine blk_drewN ?_ _ | refine blk_drew ?_ | refine blk_alloc ?_ _)); exact BK266.out⟩, ⟨by (with_reducible repeat (first | refine blk_drewN ?_ _ | refine blk_drew ?_ | refine blk_alloc ?_ _)); exact BK267.out⟩, ⟨by repeat (first | (with_reducible first | exact HB.out | apply below_alloc | apply pw_below_drewN | apply below_drew1 | refine below_set ?_ GE266.out | refine below_set ?_ GE267.out) | exact HB.out)⟩⟩
           case rest =>
            clear HC35
            obtain ⟨kq, x10_34, x268002_34, rfl, HA, HJ34, BK266, BK267, HB⟩ := hcut
            cases kq with
            | zero => exact absurd HA.out (by simp [idiomref07_read.j4])
            | succ kj34 =>
             have H := HA.out
             clear HA
             simp only [idiomref07_read.j4] at H
             have H' := Aside0.mk H
             clear H
             go_wp2
             go_loopg [10] kj34 (fun kq v10 w' => ∃ (x10_6 : Int) (x267000_6 : ByteArray) (x267001_6 : ByteArray) (x267002_6 : ByteArray) (x268003_6 : List ByteArray) (u268003 : Value), v10 = .int .i64 x10_6 ∧ Aside0 (idiomref07_read.l0 kq l0 l1 a2 x10_6 x268000_7 x268001_22 x268002_34 x268003_6 = some (r1, r2, r3, r4, r5, r6, r7)) ∧ Aside0 (kq ≤ kj34) ∧ Aside0 (Kd.V Kd.string 9 w' w.heap.size (fun k_ => (w.heap.size ≤ k_) ∧ k_ ≠ gb266 ∧ k_ ≠ gb267) u268003 x268003_6) ∧ Aside0 (w'.heap[gb266]? = some (.cells #[.string x267000_6, .string x267001_6, .string x267002_6, (.slice none 0 0), (.slice none 0 0)] 25 (0, 0))) ∧ Aside0 (w'.heap[gb267]? = some (.cells #[.string x268000_7, .string x268001_22, .string x268002_34, u268003, (.slice none 0 0)] 25 (0, 0))) ∧ Aside0 (Below w.heap.size w w'))
             case atStart => exact ⟨(x10_34), ((⟨#[]⟩ : ByteArray)), ((⟨#[]⟩ : ByteArray)), ((⟨#[]⟩ : ByteArray)), (([] : List ByteArray)), (.slice none 0 0), (by first | rfl | (simp; done) | exact congrArg (Value.int .i64) (by unfold wrap64; omega) | (simp [*]; done)), H', ⟨Nat.le_refl _⟩, ⟨Kd.R_V (base := w.heap.size) (by first | exact Kd.R_nil _ _ _ _ _ | exact Kd.N_nil _ _ _ _ _ | exact Kd.V_nil _ _ _ _ _ | exact Kd.Q_nil _ _ _ _ _ | exact Kd.S_nil _ _ _ _ _)⟩, ⟨by (with_reducible repeat (first | refine blk_drewN ?_ _ | refine blk_drew ?_ | refine blk_alloc ?_ _)); exact BK266.out⟩, ⟨by (with_reducible repeat (first | refine blk_drewN ?_ _ | refine blk_drew ?_ | refine blk_alloc ?_ _)); exact BK267.out⟩, ⟨by repeat (first | (with_reducible first | exact HB.out | apply below_alloc | apply pw_below_drewN | apply below_drew1 | refine below_set ?_ GE266.out | refine below_set ?_ GE267.out) | exact HB.out)⟩⟩
             case round =>
              clear H'
              obtain ⟨x10_6, x267000_6, x267001_6, x267002_6, x268003_6, u268003, rfl, HA, HK6, HO_268003, BK266, BK267, HB⟩ := hrel
              cases gk with
              | zero => exact absurd HA.out (by simp [idiomref07_read.l0])
              | succ k6 =>
               have H := HA.out
               clear HA
               simp only [idiomref07_read.l0] at H
               have HC43 := Aside0.mk H
               clear H
               go_upto_region 12 with (fail)
               go_cut [78] (fun v78 wc => ∃ (kq : Nat) (x78_42 : Bool), v78 = .bool x78_42 ∧ Aside0 (idiomref07_read.j6 kq l0 l1 a2 x10_6 x78_42 x268000_7 x268001_22 x268002_34 x268003_6 = some (r1, r2, r3, r4, r5, r6, r7)) ∧ Aside0 (kq ≤ k6) ∧ Aside0 (Kd.V Kd.string 9 wc w.heap.size (fun k_ => (w.heap.size ≤ k_) ∧ k_ ≠ gb266 ∧ k_ ≠ gb267) u268003 x268003_6) ∧ Aside0 (wc.heap[gb266]? = some (.cells #[.string x267000_6, .string x267001_6, .string x267002_6, (.slice none 0 0), (.slice none 0 0)] 25 (0, 0))) ∧ Aside0 (wc.heap[gb267]? = some (.cells #[.string x268000_7, .string x268001_22, .string x268002_34, u268003, (.slice none 0 0)] 25 (0, 0))) ∧ Aside0 (Below w.heap.size w wc))
               case first =>
                have H := HC43.out
                clear HC43
                by_cases c44 : x10_6 < (l0.length : Int)
                ·rw [if_pos c44] at H
                 have c44b0 : decide (x10_6 < (l0.length : Int)) = true := decide_eq_true c44
                 clear c44
                 (first | rw [c44b0] | rw [c44b1] | rw [c44b2] | (simp only [i64_w, i32_w]; rw [c44b0]) | skip)
                 (try simp only [Bool.not_true, Bool.not_false])
                 by_cases c45 : 0 ≤ x10_6
                 ·rw [if_pos c45] at H
                  have c45b0 : decide (0 ≤ x10_6) = true := decide_eq_true c45
                  clear c45
                  replace H := Option.bind_eq_some_iff.mp H
                  obtain ⟨t283, A460, H⟩ := H
                  try dsimp only at H
                  have A46 := Aside0.mk A460
                  clear A460
                  have H' := Aside0.mk H
                  clear H
                  have p282 : 0 ≤ (x10_6 : Int) := of_decide_eq_true (by first | (with_reducible assumption) | assumption)
                  have q282 : x10_6 < (l0.length : Int) := of_decide_eq_true (by first | (with_reducible assumption) | assumption)
                  obtain ⟨ad282, e282, hx282_0⟩ := Kd.at_string HR0.out x10_6 p282 q282
                  obtain rfl : ad268 = ad282 := (by injection e282)
                  replace hx282_0 := (HB.out.cell (World.block_lt_of_cell? w _ hx282_0)).trans hx282_0
                  replace p282 := eq_true p282
                  replace q282 := eq_true q282
                  go_wp2_with (first | (go_at_call 34; (with_reducible refine (idiomref07_variant.calls k6 (rdOf ByteArray.empty l0 x10_6) t283 _ A46.out).mono ?_); rintro e w' ⟨rfl, ⟨nd, rfl⟩⟩))
                  go_meet
                  case rel => exact ⟨_, (t283), (by first | rfl | (simp; done) | exact congrArg (Value.int .i64) (by unfold wrap64; omega) | (simp [*]; done)), H', ⟨by have := HJ7.out; have := HJ18.out; have := HJ22.out; have := HJ30.out; have := HJ34.out; have := HK6.out; first | omega | exact Nat.le_refl _⟩, ⟨by (with_reducible repeat (first | apply Kd.V_alloc | apply Kd.V_drewN | apply Kd.V_drew)); exact HO_268003.out⟩, ⟨by (with_reducible repeat (first | refine blk_drewN ?_ _ | refine blk_drew ?_ | refine blk_alloc ?_ _)); exact BK266.out⟩, ⟨by (with_reducible repeat (first | refine blk_drewN ?_ _ | refine blk_drew ?_ | refine blk_alloc ?_ _)); exact BK267.out⟩, ⟨by repeat (first | (with_reducible first | exact HB.out | apply below_alloc | apply pw_below_drewN | apply below_drew1 | refine below_set ?_ GE266.out | refine below_set ?_ GE267.out) | exact HB.out)⟩⟩
                 ·rw [if_neg c45] at H
                  exact absurd H (by simp)
                ·rw [if_neg c44] at H
                 have c44b0 : decide (x10_6 < (l0.length : Int)) = false := decide_eq_false c44
                 clear c44
                 (first | rw [c44b0] | rw [c44b1] | rw [c44b2] | (simp only [i64_w, i32_w]; rw [c44b0]) | skip)
                 (try simp only [Bool.not_true, Bool.not_false])
                 have H' := Aside0.mk H
                 clear H
                 go_wp2
                 go_meet
                 case rel => exact ⟨_, (false), (by first | rfl | (simp; done) | exact congrArg (Value.int .i64) (by unfold wrap64; omega) | (simp [*]; done)), H', ⟨by have := HJ7.out; have := HJ18.out; have := HJ22.out; have := HJ30.out; have := HJ34.out; have := HK6.out; first | omega | exact Nat.le_refl _⟩, ⟨by (with_reducible repeat (first | apply Kd.V_alloc | apply Kd.V_drewN | apply Kd.V_drew)); exact HO_268003.out⟩, ⟨by (with_reducible repeat (first | refine blk_drewN ?_ _ | refine blk_drew ?_ | refine blk_alloc ?_ _)); exact BK266.out⟩, ⟨by (with_reducible repeat (first | refine blk_drewN ?_ _ | refine blk_drew ?_ | refine blk_alloc ?_ _)); exact BK267.out⟩, ⟨by repeat (first | (with_reducible first | exact HB.out | apply below_alloc | apply pw_below_drewN | apply below_drew1 | refine below_set ?_ GE266.out | refine below_set ?_ GE267.out) | exact HB.out)⟩⟩
               case rest =>
                clear HC43
                obtain ⟨kq, x78_42, rfl, HA, HJ42, HO_268003, BK266, BK267, HB⟩ := hcut
                cases kq with
                | zero => exact absurd HA.out (by simp [idiomref07_read.j6])
                | succ kj42 =>
                 have H := HA.out
                 clear HA
                 simp only [idiomref07_read.j6] at H
                 by_cases c47 : x78_42 = true
                 ·subst c47
                  have H1 : (if 0 ≤ x10_6 then (if x10_6 < (l0.length : Int) then ((idiomref07_Small.f (rdOf ByteArray.empty l0 x10_6)).bind fun t285 => ((idiomref07_put.f kj42 x268003_6 t285).bind fun bt286 => (if bt286.2 = true then (if (bt286.1.length : Int) > 64 then (if x10_6 < (l1.length : Int) then (some (x268000_7, x268001_22, x268002_34, x268003_6, ([] : List (S39)), rd l1 x10_6, 5)) else (none)) else (idiomref07_read.l0 kj42 l0 l1 a2 (wrap64 (x10_6 + 1)) x268000_7 x268001_22 x268002_34 bt286.1)) else (if x10_6 < (l1.length : Int) then (some (x268000_7, x268001_22, x268002_34, x268003_6, ([] : List (S39)), rd l1 x10_6, 6)) else (none))))) else (none)) else (none)) = some (r1, r2, r3, r4, r5, r6, r7) := by rw [if_pos rfl] at H; exact H
                  clear H
                  have H := H1
                  clear H1
                  by_cases c48 : 0 ≤ x10_6
                  ·rw [if_pos c48] at H
                   have c48b0 : decide (0 ≤ x10_6) = true := decide_eq_true c48
                   clear c48
                   by_cases c49 : x10_6 < (l0.length : Int)
                   ·rw [if_pos c49] at H
                    have c49b0 : decide (x10_6 < (l0.length : Int)) = true := decide_eq_true c49
                    clear c49
                    replace H := Option.bind_eq_some_iff.mp H
                    obtain ⟨t285, A500, H⟩ := H
                    try dsimp only at H
                    have A50 := Aside0.mk A500
                    clear A500
                    replace H := Option.bind_eq_some_iff.mp H
                    obtain ⟨⟨t286, t289⟩, A510, H⟩ := H
                    try dsimp only at H
                    have A51 := Aside0.mk A510
                    clear A510
                    by_cases c52 : t289 = true
                    ·subst c52
                     have H1 : (if (t286.length : Int) > 64 then (if x10_6 < (l1.length : Int) then (some (x268000_7, x268001_22, x268002_34, x268003_6, ([] : List (S39)), rd l1 x10_6, 5)) else (none)) else (idiomref07_read.l0 kj42 l0 l1 a2 (wrap64 (x10_6 + 1)) x268000_7 x268001_22 x268002_34 t286)) = some (r1, r2, r3, r4, r5, r6, r7) := by rw [if_pos rfl] at H; exact H
                     clear H
                     have H := H1
                     clear H1
                     by_cases c53 : (t286.length : Int) > 64
                     ·rw [if_pos c53] at H
                      have c53b0 : decide (64 < (t286.length : Int)) = true := decide_eq_true c53
                      have c53b1 : decide (64 < t286.length) = true := decide_eq_true (by omega)
                      clear c53
                      by_cases c54 : x10_6 < (l1.length : Int)
                      ·rw [if_pos c54] at H
                       have c54b0 : decide (x10_6 < (l1.length : Int)) = true := decide_eq_true c54
                       clear c54
                       simp only [Option.some.injEq, Prod.mk.injEq] at H
                       obtain ⟨rfl, rfl, rfl, rfl, rfl, rfl, rfl⟩ := H
                       try go_wp2
                       replace HO_268003 := Aside0.mk (Kd.V_drew HO_268003.out)
                       replace BK266 := Aside0.mk (blk_drew BK266.out)
                       replace BK267 := Aside0.mk (blk_drew BK267.out)
                       replace HB := Aside0.mk (below_drew1 HB.out)
                       have p284 : 0 ≤ (x10_6 : Int) := of_decide_eq_true (by first | (with_reducible assumption) | assumption)
                       have q284 : x10_6 < (l0.length : Int) := of_decide_eq_true (by first | (with_reducible assumption) | assumption)
                       obtain ⟨ad284, e284, hx284_0⟩ := Kd.at_string HR0.out x10_6 p284 q284
                       have hw284_0 := hx284_0
                       obtain rfl : ad268 = ad284 := (by injection e284)
                       replace hx284_0 := (HB.out.cell (World.block_lt_of_cell? w _ hx284_0)).trans hx284_0
                       replace p284 := eq_true p284
                       replace q284 := eq_true q284
                       refine start_ (n := 13) (S := fun w' => w'.cell? ⟨gb267, 0, none⟩ = some (.string x268000_7) ∧ w'.cell? ⟨gb267, 1, none⟩ = some (.string x268001_22) ∧ w'.cell? ⟨gb267, 2, none⟩ = some (.string x268002_34) ∧ w'.cell? ⟨gb267, 3, none⟩ = some (u268003) ∧ w'.cell? ⟨gb267, 4, none⟩ = some (.slice none 0 0) ∧ w'.cell? (ad268.add (x10_6).toNat) = some (.string (rdOf ByteArray.empty l0 x10_6))) (ds := []) (bmp 13 0) (by kernel_rfl) rfl rfl ⟨(blk_cell BK267.out 0).trans rfl, (blk_cell BK267.out 1).trans rfl, (blk_cell BK267.out 2).trans rfl, (blk_cell BK267.out 3).trans rfl, (blk_cell BK267.out 4).trans rfl, ((HB.out.cell (World.block_lt_of_cell? w _ hw284_0)).trans hw284_0)⟩ (fun hHeld => ?_); refine with_tabW idiomref07_read.tab14 idiomref07_read.bits14 (fun HT_ HW_ => ?_)
                       generalize wc.drew = w55 at HO_268003 BK266 BK267 HB hx284_0 hHeld ⊢
                       refine pu_ HT_ ?_
                       refine pure_ (i := 2) (N := some 84) (v := ?_) (a' := ?_) (bm 13 5) rfl rfl (any_of HT_.out (by kernel_rfl)) (fun _ _ _ h => h) (Or.inl ⟨by rfl, ?_⟩) ?_ ?_
                       rotate_left
                       ·intro w'
                        go_simp
                        with_reducible rfl
                       rotate_left
                       ·simp only [Act.put, List.setIfInBounds_toArray, List.set_cons_zero, List.set_cons_succ, i64_w, i32_w]
                        rfl
                       refine pure_ (i := 3) (N := some 85) (v := ?_) (a' := ?_) (bm 13 13) rfl rfl (any_of HT_.out (by kernel_rfl)) (fun _ _ _ h => h) (Or.inl ⟨by rfl, ?_⟩) ?_ ?_
                       rotate_left
                       ·intro w'
                        go_simp
                        with_reducible rfl
                       rotate_left
                       ·simp only [Act.put, List.setIfInBounds_toArray, List.set_cons_zero, List.set_cons_succ, i64_w, i32_w]
                        rfl
                       refine pure_ (i := 4) (N := some 86) (v := ?_) (a' := ?_) (bm 13 29) rfl rfl (any_of HT_.out (by kernel_rfl)) (fun _ _ _ h => h) (Or.inl ⟨by rfl, ?_⟩) ?_ ?_
                       rotate_left
                       ·intro w'
                        go_simp
                        with_reducible rfl
                       rotate_left
                       ·simp only [Act.put, List.setIfInBounds_toArray, List.set_cons_zero, List.set_cons_succ, i64_w, i32_w]
                        rfl
                       refine take_ (i := 1) (N := some 83) (v := ?_) (a' := ?_) (bmp 13 5) rfl rfl (take_ofW HT_.out HW_.out (by kernel_rfl)) (fun _ _ _ h => h) (Or.inl ⟨by rfl, ?_⟩) hHeld ?_ ?_
                       rotate_left
                       ·rintro w' ⟨s0, s1, s2, s3, s4, s5⟩
                        go_simp
                        with_reducible rfl
                       rotate_left
                       ·simp only [Act.put, List.setIfInBounds_toArray, List.set_cons_zero, List.set_cons_succ, i64_w, i32_w]
                        rfl
                       refine tk_ HT_ HW_ hHeld ?_
                       refine one_ (i := 6) (N := some 88) (bmp 13 7) rfl rfl (one_of HT_.out (by kernel_rfl)) (by decide) (fun K hK => ?_)
                       refine goes_ Tryz.func29 (by kernel_rfl) rfl #[.string (rdOf ByteArray.empty l0 x10_6)] (by rfl) rfl rfl (by (try simp only [List.map_toArray, List.map_cons, List.map_nil]); first | done | rfl | (simp only [List.length_drop, List.length_take]; rfl)) ?_
                       with_reducible refine (idiomref07_Small.calls (rdOf ByteArray.empty l0 x10_6) t285 _ A50.out).mono ?_
                       rintro e w56 ⟨rfl, hb⟩
                       refine ⟨_, rfl, ?_⟩
                       replace HO_268003 := Aside0.mk (Kd.V_below (va_ HO_268003) hb)
                       replace BK266 := Aside0.mk (blk_below (g := gb266) (o := .cells #[.string x267000_6, .string x267001_6, .string x267002_6, .slice none 0 0, .slice none 0 0] 25 (0, 0)) (bk_ BK266) hb)
                       replace BK267 := Aside0.mk (blk_below (g := gb267) (o := .cells #[.string x268000_7, .string x268001_22, .string x268002_34, u268003, .slice none 0 0] 25 (0, 0)) (bk_ BK267) hb)
                       replace HB := Aside0.mk (below_step (by repeat (first | (with_reducible first | exact HB.out | apply below_alloc | apply pw_below_drewN | apply below_drew1 | refine below_set ?_ GE266.out | refine below_set ?_ GE267.out) | exact HB.out)) hb)
                       (try clear hb)
                       (try clear hb2)
                       (try clear hk)
                       (try clear hi)
                       obtain ⟨Ao57, co57, eo57⟩ := Kd.V_slice HO_268003.out
                       (first | subst eo57 | (injection eo57 with f1_ f2_ f3_; have f4_ := f1_.symm; have f5_ := f3_.symm; clear f1_ f2_ f3_; subst f4_; subst f5_))
                       refine hK.out _ _ ⟨(blk_cell BK267.out 0).trans rfl, (blk_cell BK267.out 1).trans rfl, (blk_cell BK267.out 2).trans rfl, (blk_cell BK267.out 3).trans rfl, (blk_cell BK267.out 4).trans rfl, ((HB.out.cell (World.block_lt_of_cell? w _ hw284_0)).trans hw284_0)⟩ (fun hHeld => ?_)
                       clear hK K
                       refine norm_ (a' := ?_) ?_ ?_
                       rotate_left
                       ·show Act.put _ (some 88) _ = _
                        simp only [Act.put, List.setIfInBounds_toArray, List.set_cons_zero, List.set_cons_succ, i64_w, i32_w]
                        rfl
                       refine one_ (i := 7) (N := some 89) (bmp 13 8) rfl rfl (one_of HT_.out (by kernel_rfl)) (by decide) (fun K hK => ?_)
                       refine goes_ Tryz.func81 (by kernel_rfl) rfl #[.slice Ao57 x268003_6.length co57, .string t285] (by rfl) rfl rfl (by (try simp only [List.map_toArray, List.map_cons, List.map_nil]); first | done | rfl | (simp only [List.length_drop, List.length_take]; rfl)) ?_
                       with_reducible refine (idiomref07_put.calls kj42 (fun k_ => ((w.heap.size ≤ k_) ∧ (k_ ≠ gb266 ∧ k_ ≠ gb267))) _ _ x268003_6 t285 t286 true _ ?side1 A51.out).mono ?_
                       (case side1 => exact HO_268003.out)
                       rintro e w58 ⟨v287, rfl, ho0, hb⟩
                       refine ⟨_, rfl, ?_⟩
                       replace HO_268003 := Aside0.mk (Kd.V_below (va_ HO_268003) hb)
                       have HO288 := Aside0.mk (Kd.V_lower (Kd.V_mono (ok' := fun k_ => (w.heap.size ≤ k_) ∧ k_ ≠ gb266 ∧ k_ ≠ gb267) ho0 (fun k_ hk_ => ⟨Or.elim hk_ (fun hs_ => hs_.1) (fun hn_ => (Nat.le_trans (below_size (by repeat (first | (with_reducible first | exact HB.out | apply below_alloc | apply pw_below_drewN | apply below_drew1 | refine below_set ?_ GE266.out | refine below_set ?_ GE267.out) | exact HB.out))) hn_)), Or.elim hk_ (fun hs_ => hs_.2.1) (fun hn_ => (Kd.freshB (g := gb266) (o := .cells #[.string x267000_6, .string x267001_6, .string x267002_6, .slice none 0 0, .slice none 0 0] 25 (0, 0)) (bk_ BK266) k_ hn_)), Or.elim hk_ (fun hs_ => hs_.2.2) (fun hn_ => (Kd.freshB (g := gb267) (o := .cells #[.string x268000_7, .string x268001_22, .string x268002_34, .slice Ao57 x268003_6.length co57, .slice none 0 0] 25 (0, 0)) (bk_ BK267) k_ hn_))⟩)) (below_size (by repeat (first | (with_reducible first | exact HB.out | apply below_alloc | apply pw_below_drewN | apply below_drew1 | refine below_set ?_ GE266.out | refine below_set ?_ GE267.out) | exact HB.out))))
                       replace BK266 := Aside0.mk (blk_below (g := gb266) (o := .cells #[.string x267000_6, .string x267001_6, .string x267002_6, .slice none 0 0, .slice none 0 0] 25 (0, 0)) (bk_ BK266) hb)
                       replace BK267 := Aside0.mk (blk_below (g := gb267) (o := .cells #[.string x268000_7, .string x268001_22, .string x268002_34, .slice Ao57 x268003_6.length co57, .slice none 0 0] 25 (0, 0)) (bk_ BK267) hb)
                       replace HB := Aside0.mk (below_step (by repeat (first | (with_reducible first | exact HB.out | apply below_alloc | apply pw_below_drewN | apply below_drew1 | refine below_set ?_ GE266.out | refine below_set ?_ GE267.out) | exact HB.out)) hb)
                       (try clear hb)
                       (try clear hb2)
                       (try clear hk)
                       (try clear hi)
                       (try clear ho0)
                       refine hK.out _ _ ⟨(blk_cell BK267.out 0).trans rfl, (blk_cell BK267.out 1).trans rfl, (blk_cell BK267.out 2).trans rfl, (blk_cell BK267.out 3).trans rfl, (blk_cell BK267.out 4).trans rfl, ((HB.out.cell (World.block_lt_of_cell? w _ hw284_0)).trans hw284_0)⟩ (fun hHeld => ?_)
                       clear hK K
                       refine norm_ (a' := ?_) ?_ ?_
                       rotate_left
                       ·show Act.put _ (some 89) _ = _
                        simp only [Act.put, List.setIfInBounds_toArray, List.set_cons_zero, List.set_cons_succ, i64_w, i32_w]
                        rfl
                       iterate 5 (refine pu_ HT_ ?_)
                       refine done_ (done_of HT_.out (by kernel_rfl)) ?_
                       obtain ⟨Ao59, co59, eo59⟩ := Kd.V_slice HO288.out
                       subst eo59
                       try go_wp2
                       replace HO_268003 := Aside0.mk (Kd.V_drew HO_268003.out)
                       replace HO288 := Aside0.mk (Kd.V_drew HO288.out)
                       replace BK266 := Aside0.mk (blk_drew BK266.out)
                       replace BK267 := Aside0.mk (blk_drew BK267.out)
                       replace HB := Aside0.mk (below_drew1 HB.out)
                       have p291 : 0 ≤ (x10_6 : Int) := of_decide_eq_true (by first | (with_reducible assumption) | assumption)
                       have q291 : x10_6 < (l1.length : Int) := of_decide_eq_true (by first | (with_reducible assumption) | assumption)
                       obtain ⟨ad291, e291, hx291_0⟩ := Kd.at_int HR1.out x10_6 p291 q291
                       have hw291_0 := hx291_0
                       cases e291
                       replace hx291_0 := (HB.out.cell (World.block_lt_of_cell? w _ hx291_0)).trans hx291_0
                       replace p291 := eq_true p291
                       replace q291 := eq_true q291
                       refine start_ (n := 8) (S := fun w' => w'.cell? ⟨gb267, 0, none⟩ = some (.string x268000_7) ∧ w'.cell? ⟨gb267, 1, none⟩ = some (.string x268001_22) ∧ w'.cell? ⟨gb267, 2, none⟩ = some (.string x268002_34) ∧ w'.cell? ⟨gb267, 3, none⟩ = some (.slice Ao57 x268003_6.length co57) ∧ w'.cell? ⟨gb267, 4, none⟩ = some (.slice none 0 0) ∧ w'.cell? (ad291.add (x10_6).toNat) = some (.int .i64 (rd l1 x10_6))) (ds := []) (bmp 8 0) (by kernel_rfl) rfl rfl ⟨(blk_cell BK267.out 0).trans rfl, (blk_cell BK267.out 1).trans rfl, (blk_cell BK267.out 2).trans rfl, (blk_cell BK267.out 3).trans rfl, (blk_cell BK267.out 4).trans rfl, ((HB.out.cell (World.block_lt_of_cell? w _ hw291_0)).trans hw291_0)⟩ (fun hHeld => ?_); refine with_tabW idiomref07_read.tab18 idiomref07_read.bits18 (fun HT_ HW_ => ?_)
                       generalize w58.drew = w60 at HO_268003 HO288 BK266 BK267 HB hx291_0 hHeld ⊢
                       refine pure_ (i := 1) (N := some 103) (v := ?_) (a' := ?_) (bm 8 2) rfl rfl (any_of HT_.out (by kernel_rfl)) (fun _ _ _ h => h) (Or.inl ⟨by rfl, ?_⟩) ?_ ?_
                       rotate_left
                       ·intro w'
                        go_simp
                        with_reducible rfl
                       rotate_left
                       ·simp only [Act.put, List.setIfInBounds_toArray, List.set_cons_zero, List.set_cons_succ, i64_w, i32_w]
                        rfl
                       refine pure_ (i := 2) (N := some 104) (v := ?_) (a' := ?_) (bm 8 6) rfl rfl (any_of HT_.out (by kernel_rfl)) (fun _ _ _ h => h) (Or.inl ⟨by rfl, ?_⟩) ?_ ?_
                       rotate_left
                       ·intro w'
                        go_simp
                        with_reducible rfl
                       rotate_left
                       ·simp only [Act.put, List.setIfInBounds_toArray, List.set_cons_zero, List.set_cons_succ, i64_w, i32_w]
                        rfl
                       refine pure_ (i := 3) (N := some 105) (v := ?_) (a' := ?_) (bm 8 14) rfl rfl (any_of HT_.out (by kernel_rfl)) (fun _ _ _ h => h) (Or.inl ⟨by rfl, ?_⟩) ?_ ?_
                       rotate_left
                       ·intro w'
                        go_simp
                        with_reducible rfl
                       rotate_left
                       ·simp only [Act.put, List.setIfInBounds_toArray, List.set_cons_zero, List.set_cons_succ, i64_w, i32_w]
                        rfl
                       refine take_ (i := 0) (N := some 102) (v := ?_) (a' := ?_) (bmp 8 4) rfl rfl (take_ofW HT_.out HW_.out (by kernel_rfl)) (fun _ _ _ h => h) (Or.inl ⟨by rfl, ?_⟩) hHeld ?_ ?_
                       rotate_left
                       ·rintro w' ⟨s0, s1, s2, s3, s4, s5⟩
                        go_simp
                        with_reducible rfl
                       rotate_left
                       ·simp only [Act.put, List.setIfInBounds_toArray, List.set_cons_zero, List.set_cons_succ, i64_w, i32_w]
                        rfl
                       refine tk_ HT_ HW_ hHeld ?_
                       refine one_ (i := 5) (N := none) (bmp 8 6) rfl rfl (one_of HT_.out (by kernel_rfl)) (by decide) (fun K hK => ?_)
                       have hs61 : w60.cell? ⟨gb266, 0, none⟩ = some (.string x267000_6) := (blk_cell BK266.out 0).trans rfl
                       have hfs61 := blk_frozen BK266.out 0
                       have hns61_1 := NB267_266.out
                       have hms61_1 := NB266_267.out
                       have hs62 : w60.cell? ⟨gb266, 1, none⟩ = some (.string x267001_6) := (blk_cell BK266.out 1).trans rfl
                       have hfs62 := blk_frozen BK266.out 1
                       have hns62_1 := NB267_266.out
                       have hms62_1 := NB266_267.out
                       have hs63 : w60.cell? ⟨gb266, 2, none⟩ = some (.string x267002_6) := (blk_cell BK266.out 2).trans rfl
                       have hfs63 := blk_frozen BK266.out 2
                       have hns63_1 := NB267_266.out
                       have hms63_1 := NB266_267.out
                       have hs64 : w60.cell? ⟨gb266, 3, none⟩ = some (.slice none 0 0) := (blk_cell BK266.out 3).trans rfl
                       have hfs64 := blk_frozen BK266.out 3
                       have hns64_1 := NB267_266.out
                       have hms64_1 := NB266_267.out
                       have hs65 : w60.cell? ⟨gb266, 4, none⟩ = some (.slice none 0 0) := (blk_cell BK266.out 4).trans rfl
                       have hfs65 := blk_frozen BK266.out 4
                       have hns65_1 := NB267_266.out
                       have hms65_1 := NB266_267.out
                       refine skip_ (w1 := ?_) (by rfl) rfl ?_ ?_
                       rotate_left
                       ·go_simp
                        rfl
                       refine hK.out _ _ ⟨((cell_far (p := ⟨gb266, _, none⟩) NB267_266.out _).trans (((cell_far (p := ⟨gb266, _, none⟩) NB267_266.out _).trans (((cell_far (p := ⟨gb266, _, none⟩) NB267_266.out _).trans (((cell_far (p := ⟨gb266, _, none⟩) NB267_266.out _).trans (((cell_far (p := ⟨gb266, _, none⟩) NB267_266.out _).trans (hHeld.1)))))))))), ((cell_far (p := ⟨gb266, _, none⟩) NB267_266.out _).trans (((cell_far (p := ⟨gb266, _, none⟩) NB267_266.out _).trans (((cell_far (p := ⟨gb266, _, none⟩) NB267_266.out _).trans (((cell_far (p := ⟨gb266, _, none⟩) NB267_266.out _).trans (((cell_far (p := ⟨gb266, _, none⟩) NB267_266.out _).trans (hHeld.2.1)))))))))), ((cell_far (p := ⟨gb266, _, none⟩) NB267_266.out _).trans (((cell_far (p := ⟨gb266, _, none⟩) NB267_266.out _).trans (((cell_far (p := ⟨gb266, _, none⟩) NB267_266.out _).trans (((cell_far (p := ⟨gb266, _, none⟩) NB267_266.out _).trans (((cell_far (p := ⟨gb266, _, none⟩) NB267_266.out _).trans (hHeld.2.2.1)))))))))), ((cell_far (p := ⟨gb266, _, none⟩) NB267_266.out _).trans (((cell_far (p := ⟨gb266, _, none⟩) NB267_266.out _).trans (((cell_far (p := ⟨gb266, _, none⟩) NB267_266.out _).trans (((cell_far (p := ⟨gb266, _, none⟩) NB267_266.out _).trans (((cell_far (p := ⟨gb266, _, none⟩) NB267_266.out _).trans (hHeld.2.2.2.1)))))))))), ((cell_far (p := ⟨gb266, _, none⟩) NB267_266.out _).trans (((cell_far (p := ⟨gb266, _, none⟩) NB267_266.out _).trans (((cell_far (p := ⟨gb266, _, none⟩) NB267_266.out _).trans (((cell_far (p := ⟨gb266, _, none⟩) NB267_266.out _).trans (((cell_far (p := ⟨gb266, _, none⟩) NB267_266.out _).trans (hHeld.2.2.2.2.1)))))))))), ((cell_far (p := ⟨gb266, _, none⟩) (by first | exact Nat.ne_of_lt (Nat.lt_of_lt_of_le (by have := World.block_lt_of_cell? _ _ hw291_0; first | rwa [add_block] at this | exact this) GW266.out) | (rw [add_block]; exact Nat.ne_of_lt (Nat.lt_of_lt_of_le (by have := World.block_lt_of_cell? _ _ hw291_0; first | rwa [add_block] at this | exact this) GW266.out)) | (show (Addr.add _ _).block ≠ _; rw [add_block]; exact Nat.ne_of_lt (Nat.lt_of_lt_of_le (by have := World.block_lt_of_cell? _ _ hw291_0; first | rwa [add_block] at this | exact this) GW266.out)) | (dsimp only; exact Nat.ne_of_lt (Nat.lt_of_lt_of_le (by have := World.block_lt_of_cell? _ _ hw291_0; first | rwa [add_block] at this | exact this) GW266.out))) _).trans (((cell_far (p := ⟨gb266, _, none⟩) (by first | exact Nat.ne_of_lt (Nat.lt_of_lt_of_le (by have := World.block_lt_of_cell? _ _ hw291_0; first | rwa [add_block] at this | exact this) GW266.out) | (rw [add_block]; exact Nat.ne_of_lt (Nat.lt_of_lt_of_le (by have := World.block_lt_of_cell? _ _ hw291_0; first | rwa [add_block] at this | exact this) GW266.out)) | (show (Addr.add _ _).block ≠ _; rw [add_block]; exact Nat.ne_of_lt (Nat.lt_of_lt_of_le (by have := World.block_lt_of_cell? _ _ hw291_0; first | rwa [add_block] at this | exact this) GW266.out)) | (dsimp only; exact Nat.ne_of_lt (Nat.lt_of_lt_of_le (by have := World.block_lt_of_cell? _ _ hw291_0; first | rwa [add_block] at this | exact this) GW266.out))) _).trans (((cell_far (p := ⟨gb266, _, none⟩) (by first | exact Nat.ne_of_lt (Nat.lt_of_lt_of_le (by have := World.block_lt_of_cell? _ _ hw291_0; first | rwa [add_block] at this | exact this) GW266.out) | (rw [add_block]; exact Nat.ne_of_lt (Nat.lt_of_lt_of_le (by have := World.block_lt_of_cell? _ _ hw291_0; first | rwa [add_block] at this | exact this) GW266.out)) | (show (Addr.add _ _).block ≠ _; rw [add_block]; exact Nat.ne_of_lt (Nat.lt_of_lt_of_le (by have := World.block_lt_of_cell? _ _ hw291_0; first | rwa [add_block] at this | exact this) GW266.out)) | (dsimp only; exact Nat.ne_of_lt (Nat.lt_of_lt_of_le (by have := World.block_lt_of_cell? _ _ hw291_0; first | rwa [add_block] at this | exact this) GW266.out))) _).trans (((cell_far (p := ⟨gb266, _, none⟩) (by first | exact Nat.ne_of_lt (Nat.lt_of_lt_of_le (by have := World.block_lt_of_cell? _ _ hw291_0; first | rwa [add_block] at this | exact this) GW266.out) | (rw [add_block]; exact Nat.ne_of_lt (Nat.lt_of_lt_of_le (by have := World.block_lt_of_cell? _ _ hw291_0; first | rwa [add_block] at this | exact this) GW266.out)) | (show (Addr.add _ _).block ≠ _; rw [add_block]; exact Nat.ne_of_lt (Nat.lt_of_lt_of_le (by have := World.block_lt_of_cell? _ _ hw291_0; first | rwa [add_block] at this | exact this) GW266.out)) | (dsimp only; exact Nat.ne_of_lt (Nat.lt_of_lt_of_le (by have := World.block_lt_of_cell? _ _ hw291_0; first | rwa [add_block] at this | exact this) GW266.out))) _).trans (((cell_far (p := ⟨gb266, _, none⟩) (by first | exact Nat.ne_of_lt (Nat.lt_of_lt_of_le (by have := World.block_lt_of_cell? _ _ hw291_0; first | rwa [add_block] at this | exact this) GW266.out) | (rw [add_block]; exact Nat.ne_of_lt (Nat.lt_of_lt_of_le (by have := World.block_lt_of_cell? _ _ hw291_0; first | rwa [add_block] at this | exact this) GW266.out)) | (show (Addr.add _ _).block ≠ _; rw [add_block]; exact Nat.ne_of_lt (Nat.lt_of_lt_of_le (by have := World.block_lt_of_cell? _ _ hw291_0; first | rwa [add_block] at this | exact this) GW266.out)) | (dsimp only; exact Nat.ne_of_lt (Nat.lt_of_lt_of_le (by have := World.block_lt_of_cell? _ _ hw291_0; first | rwa [add_block] at this | exact this) GW266.out))) _).trans (hHeld.2.2.2.2.2))))))))))⟩ (fun hHeld => ?_)
                       clear hK K
                       iterate 2 (refine pu_ HT_ ?_)
                       refine done_ (done_of HT_.out (by kernel_rfl)) ?_
                       try go_wp2
                       refine bodyPost_ret (results_ctt rfl _ _ gb266 25 #[.string x268000_7, .string x268001_22, .string x268002_34, .slice Ao57 x268003_6.length co57, .slice none 0 0] (0, 0) _ rfl (by (with_reducible repeat (first | refine blk_drewN ?_ _ | refine blk_drew ?_ | refine blk_alloc ?_ _)); refine blk_put (cs := #[.string x268000_7, .string x268001_22, .string x268002_34, .slice Ao57 x268003_6.length co57, .slice none 0 0]) ?_ 4 _ rfl; (with_reducible repeat (first | refine blk_drewN ?_ _ | refine blk_drew ?_ | refine blk_alloc ?_ _)); refine blk_put (cs := #[.string x268000_7, .string x268001_22, .string x268002_34, .slice none 0 0, .slice none 0 0]) ?_ 3 _ (by first | rfl | simp); (with_reducible repeat (first | refine blk_drewN ?_ _ | refine blk_drew ?_ | refine blk_alloc ?_ _)); refine blk_put (cs := #[.string x268000_7, .string x268001_22, .string x267002_6, .slice none 0 0, .slice none 0 0]) ?_ 2 _ rfl; (with_reducible repeat (first | refine blk_drewN ?_ _ | refine blk_drew ?_ | refine blk_alloc ?_ _)); refine blk_put (cs := #[.string x268000_7, .string x267001_6, .string x267002_6, .slice none 0 0, .slice none 0 0]) ?_ 1 _ rfl; (with_reducible repeat (first | refine blk_drewN ?_ _ | refine blk_drew ?_ | refine blk_alloc ?_ _)); refine blk_put (cs := #[.string x267000_6, .string x267001_6, .string x267002_6, .slice none 0 0, .slice none 0 0]) ?_ 0 _ rfl; (with_reducible repeat (first | refine blk_drewN ?_ _ | refine blk_drew ?_ | refine blk_alloc ?_ _)); exact BK266.out) Tryz.underlying25 rfl (by kernel_rfl)) rfl ?_
                       exact ⟨_, _, by first | rfl | (simp [errW_none, errW_some] <;> rfl) | (simp [*, errW_none, errW_some] <;> rfl), by (with_reducible repeat (first | apply Kd.V_alloc | apply Kd.V_drewN | apply Kd.V_drew)); exact Kd.V_mono (Kd.V_far (p := ⟨gb266, 4, none⟩) (Kd.V_far (p := ⟨gb266, 3, none⟩) (Kd.V_far (p := ⟨gb266, 2, none⟩) (Kd.V_far (p := ⟨gb266, 1, none⟩) (Kd.V_far (p := ⟨gb266, 0, none⟩) (Kd.V_mono HO_268003.out (fun k_ hk => (⟨hk, hk.2.1⟩ : _ ∧ k_ ≠ gb266))) (fun _ hk => hk.2) (.string x268000_7)) (fun _ hk => hk.2) (.string x268001_22)) (fun _ hk => hk.2) (.string x268002_34)) (fun _ hk => hk.2) (.slice Ao57 x268003_6.length co57)) (fun _ hk => hk.2) (.slice none 0 0)) (fun _ hk => hk.1.1), Kd.R_V (base := w.heap.size) (by first | exact Kd.R_nil _ _ _ _ _ | exact Kd.N_nil _ _ _ _ _ | exact Kd.V_nil _ _ _ _ _ | exact Kd.Q_nil _ _ _ _ _ | exact Kd.S_nil _ _ _ _ _), by repeat (first | (with_reducible first | exact HB.out | apply below_alloc | apply pw_below_drewN | apply below_drew1 | refine below_set ?_ GE266.out | refine below_set ?_ GE267.out) | exact HB.out)⟩
                      ·rw [if_neg c54] at H
                       exact absurd H (by simp)
                     ·rw [if_neg c53] at H
                      have c53b0 : decide (64 < (t286.length : Int)) = false := decide_eq_false c53
                      have c53b1 : decide (64 < t286.length) = false := decide_eq_false (by omega)
                      clear c53
                      have H' := Aside0.mk H
                      clear H
                      try go_wp2
                      replace HO_268003 := Aside0.mk (Kd.V_drew HO_268003.out)
                      replace BK266 := Aside0.mk (blk_drew BK266.out)
                      replace BK267 := Aside0.mk (blk_drew BK267.out)
                      replace HB := Aside0.mk (below_drew1 HB.out)
                      have p284 : 0 ≤ (x10_6 : Int) := of_decide_eq_true (by first | (with_reducible assumption) | assumption)
                      have q284 : x10_6 < (l0.length : Int) := of_decide_eq_true (by first | (with_reducible assumption) | assumption)
                      obtain ⟨ad284, e284, hx284_0⟩ := Kd.at_string HR0.out x10_6 p284 q284
                      have hw284_0 := hx284_0
                      obtain rfl : ad268 = ad284 := (by injection e284)
                      replace hx284_0 := (HB.out.cell (World.block_lt_of_cell? w _ hx284_0)).trans hx284_0
                      replace p284 := eq_true p284
                      replace q284 := eq_true q284
                      refine start_ (n := 13) (S := fun w' => w'.cell? ⟨gb267, 0, none⟩ = some (.string x268000_7) ∧ w'.cell? ⟨gb267, 1, none⟩ = some (.string x268001_22) ∧ w'.cell? ⟨gb267, 2, none⟩ = some (.string x268002_34) ∧ w'.cell? ⟨gb267, 3, none⟩ = some (u268003) ∧ w'.cell? ⟨gb267, 4, none⟩ = some (.slice none 0 0) ∧ w'.cell? (ad268.add (x10_6).toNat) = some (.string (rdOf ByteArray.empty l0 x10_6))) (ds := []) (bmp 13 0) (by kernel_rfl) rfl rfl ⟨(blk_cell BK267.out 0).trans rfl, (blk_cell BK267.out 1).trans rfl, (blk_cell BK267.out 2).trans rfl, (blk_cell BK267.out 3).trans rfl, (blk_cell BK267.out 4).trans rfl, ((HB.out.cell (World.block_lt_of_cell? w _ hw284_0)).trans hw284_0)⟩ (fun hHeld => ?_); refine with_tabW idiomref07_read.tab14 idiomref07_read.bits14 (fun HT_ HW_ => ?_)
                      generalize wc.drew = w66 at HO_268003 BK266 BK267 HB hx284_0 hHeld ⊢
                      refine pu_ HT_ ?_
                      refine pure_ (i := 2) (N := some 84) (v := ?_) (a' := ?_) (bm 13 5) rfl rfl (any_of HT_.out (by kernel_rfl)) (fun _ _ _ h => h) (Or.inl ⟨by rfl, ?_⟩) ?_ ?_
                      rotate_left
                      ·intro w'
                       go_simp
                       with_reducible rfl
                      rotate_left
                      ·simp only [Act.put, List.setIfInBounds_toArray, List.set_cons_zero, List.set_cons_succ, i64_w, i32_w]
                       rfl
                      refine pure_ (i := 3) (N := some 85) (v := ?_) (a' := ?_) (bm 13 13) rfl rfl (any_of HT_.out (by kernel_rfl)) (fun _ _ _ h => h) (Or.inl ⟨by rfl, ?_⟩) ?_ ?_
                      rotate_left
                      ·intro w'
                       go_simp
                       with_reducible rfl
                      rotate_left
                      ·simp only [Act.put, List.setIfInBounds_toArray, List.set_cons_zero, List.set_cons_succ, i64_w, i32_w]
                       rfl
                      refine pure_ (i := 4) (N := some 86) (v := ?_) (a' := ?_) (bm 13 29) rfl rfl (any_of HT_.out (by kernel_rfl)) (fun _ _ _ h => h) (Or.inl ⟨by rfl, ?_⟩) ?_ ?_
                      rotate_left
                      ·intro w'
                       go_simp
                       with_reducible rfl
                      rotate_left
                      ·simp only [Act.put, List.setIfInBounds_toArray, List.set_cons_zero, List.set_cons_succ, i64_w, i32_w]
                       rfl
                      refine take_ (i := 1) (N := some 83) (v := ?_) (a' := ?_) (bmp 13 5) rfl rfl (take_ofW HT_.out HW_.out (by kernel_rfl)) (fun _ _ _ h => h) (Or.inl ⟨by rfl, ?_⟩) hHeld ?_ ?_
                      rotate_left
                      ·rintro w' ⟨s0, s1, s2, s3, s4, s5⟩
                       go_simp
                       with_reducible rfl
                      rotate_left
                      ·simp only [Act.put, List.setIfInBounds_toArray, List.set_cons_zero, List.set_cons_succ, i64_w, i32_w]
                       rfl
                      refine tk_ HT_ HW_ hHeld ?_
                      refine one_ (i := 6) (N := some 88) (bmp 13 7) rfl rfl (one_of HT_.out (by kernel_rfl)) (by decide) (fun K hK => ?_)
                      refine goes_ Tryz.func29 (by kernel_rfl) rfl #[.string (rdOf ByteArray.empty l0 x10_6)] (by rfl) rfl rfl (by (try simp only [List.map_toArray, List.map_cons, List.map_nil]); first | done | rfl | (simp only [List.length_drop, List.length_take]; rfl)) ?_
                      with_reducible refine (idiomref07_Small.calls (rdOf ByteArray.empty l0 x10_6) t285 _ A50.out).mono ?_
                      rintro e w67 ⟨rfl, hb⟩
                      refine ⟨_, rfl, ?_⟩
                      replace HO_268003 := Aside0.mk (Kd.V_below (va_ HO_268003) hb)
                      replace BK266 := Aside0.mk (blk_below (g := gb266) (o := .cells #[.string x267000_6, .string x267001_6, .string x267002_6, .slice none 0 0, .slice none 0 0] 25 (0, 0)) (bk_ BK266) hb)
                      replace BK267 := Aside0.mk (blk_below (g := gb267) (o := .cells #[.string x268000_7, .string x268001_22, .string x268002_34, u268003, .slice none 0 0] 25 (0, 0)) (bk_ BK267) hb)
                      replace HB := Aside0.mk (below_step (by repeat (first | (with_reducible first | exact HB.out | apply below_alloc | apply pw_below_drewN | apply below_drew1 | refine below_set ?_ GE266.out | refine below_set ?_ GE267.out) | exact HB.out)) hb)
                      (try clear hb)
                      (try clear hb2)
                      (try clear hk)
                      (try clear hi)
                      obtain ⟨Ao68, co68, eo68⟩ := Kd.V_slice HO_268003.out
                      (first | subst eo68 | (injection eo68 with f1_ f2_ f3_; have f4_ := f1_.symm; have f5_ := f3_.symm; clear f1_ f2_ f3_; subst f4_; subst f5_))
                      refine hK.out _ _ ⟨(blk_cell BK267.out 0).trans rfl, (blk_cell BK267.out 1).trans rfl, (blk_cell BK267.out 2).trans rfl, (blk_cell BK267.out 3).trans rfl, (blk_cell BK267.out 4).trans rfl, ((HB.out.cell (World.block_lt_of_cell? w _ hw284_0)).trans hw284_0)⟩ (fun hHeld => ?_)
                      clear hK K
                      refine norm_ (a' := ?_) ?_ ?_
                      rotate_left
                      ·show Act.put _ (some 88) _ = _
                       simp only [Act.put, List.setIfInBounds_toArray, List.set_cons_zero, List.set_cons_succ, i64_w, i32_w]
                       rfl
                      refine one_ (i := 7) (N := some 89) (bmp 13 8) rfl rfl (one_of HT_.out (by kernel_rfl)) (by decide) (fun K hK => ?_)
                      refine goes_ Tryz.func81 (by kernel_rfl) rfl #[.slice Ao68 x268003_6.length co68, .string t285] (by rfl) rfl rfl (by (try simp only [List.map_toArray, List.map_cons, List.map_nil]); first | done | rfl | (simp only [List.length_drop, List.length_take]; rfl)) ?_
                      with_reducible refine (idiomref07_put.calls kj42 (fun k_ => ((w.heap.size ≤ k_) ∧ (k_ ≠ gb266 ∧ k_ ≠ gb267))) _ _ x268003_6 t285 t286 true _ ?side1 A51.out).mono ?_
                      (case side1 => exact HO_268003.out)
                      rintro e w69 ⟨v287, rfl, ho0, hb⟩
                      refine ⟨_, rfl, ?_⟩
                      replace HO_268003 := Aside0.mk (Kd.V_below (va_ HO_268003) hb)
                      have HO288 := Aside0.mk (Kd.V_lower (Kd.V_mono (ok' := fun k_ => (w.heap.size ≤ k_) ∧ k_ ≠ gb266 ∧ k_ ≠ gb267) ho0 (fun k_ hk_ => ⟨Or.elim hk_ (fun hs_ => hs_.1) (fun hn_ => (Nat.le_trans (below_size (by repeat (first | (with_reducible first | exact HB.out | apply below_alloc | apply pw_below_drewN | apply below_drew1 | refine below_set ?_ GE266.out | refine below_set ?_ GE267.out) | exact HB.out))) hn_)), Or.elim hk_ (fun hs_ => hs_.2.1) (fun hn_ => (Kd.freshB (g := gb266) (o := .cells #[.string x267000_6, .string x267001_6, .string x267002_6, .slice none 0 0, .slice none 0 0] 25 (0, 0)) (bk_ BK266) k_ hn_)), Or.elim hk_ (fun hs_ => hs_.2.2) (fun hn_ => (Kd.freshB (g := gb267) (o := .cells #[.string x268000_7, .string x268001_22, .string x268002_34, .slice Ao68 x268003_6.length co68, .slice none 0 0] 25 (0, 0)) (bk_ BK267) k_ hn_))⟩)) (below_size (by repeat (first | (with_reducible first | exact HB.out | apply below_alloc | apply pw_below_drewN | apply below_drew1 | refine below_set ?_ GE266.out | refine below_set ?_ GE267.out) | exact HB.out))))
                      replace BK266 := Aside0.mk (blk_below (g := gb266) (o := .cells #[.string x267000_6, .string x267001_6, .string x267002_6, .slice none 0 0, .slice none 0 0] 25 (0, 0)) (bk_ BK266) hb)
                      replace BK267 := Aside0.mk (blk_below (g := gb267) (o := .cells #[.string x268000_7, .string x268001_22, .string x268002_34, .slice Ao68 x268003_6.length co68, .slice none 0 0] 25 (0, 0)) (bk_ BK267) hb)
                      replace HB := Aside0.mk (below_step (by repeat (first | (with_reducible first | exact HB.out | apply below_alloc | apply pw_below_drewN | apply below_drew1 | refine below_set ?_ GE266.out | refine below_set ?_ GE267.out) | exact HB.out)) hb)
                      (try clear hb)
                      (try clear hb2)
                      (try clear hk)
                      (try clear hi)
                      (try clear ho0)
                      refine hK.out _ _ ⟨(blk_cell BK267.out 0).trans rfl, (blk_cell BK267.out 1).trans rfl, (blk_cell BK267.out 2).trans rfl, (blk_cell BK267.out 3).trans rfl, (blk_cell BK267.out 4).trans rfl, ((HB.out.cell (World.block_lt_of_cell? w _ hw284_0)).trans hw284_0)⟩ (fun hHeld => ?_)
                      clear hK K
                      refine norm_ (a' := ?_) ?_ ?_
                      rotate_left
                      ·show Act.put _ (some 89) _ = _
                       simp only [Act.put, List.setIfInBounds_toArray, List.set_cons_zero, List.set_cons_succ, i64_w, i32_w]
                       rfl
                      iterate 5 (refine pu_ HT_ ?_)
                      refine done_ (done_of HT_.out (by kernel_rfl)) ?_
                      obtain ⟨Ao70, co70, eo70⟩ := Kd.V_slice HO288.out
                      subst eo70
                      have hnb71 := NB267_266.out
                      have hnc71 := NB266_267.out
                      have hcz72_0 : w69.cell? ⟨gb267, 0, none⟩ = some (.string x268000_7) := (blk_cell BK267.out 0).trans rfl
                      have hcz72_1 : w69.cell? ⟨gb267, 1, none⟩ = some (.string x268001_22) := (blk_cell BK267.out 1).trans rfl
                      have hcz72_2 : w69.cell? ⟨gb267, 2, none⟩ = some (.string x268002_34) := (blk_cell BK267.out 2).trans rfl
                      have hcz72_3 : w69.cell? ⟨gb267, 3, none⟩ = some (.slice Ao68 x268003_6.length co68) := (blk_cell BK267.out 3).trans rfl
                      have hcz72_4 : w69.cell? ⟨gb267, 4, none⟩ = some (.slice none 0 0) := (blk_cell BK267.out 4).trans rfl
                      have hfz72_0 := blk_frozen BK267.out 0
                      have hfz72_1 := blk_frozen BK267.out 1
                      have hfz72_2 := blk_frozen BK267.out 2
                      have hfz72_3 := blk_frozen BK267.out 3
                      have hfz72_4 := blk_frozen BK267.out 4
                      try go_wp2
                      go_roundg kj42
                      case measure => have := HJ7.out; have := HJ18.out; have := HJ22.out; have := HJ30.out; have := HJ34.out; have := HK6.out; have := HJ42.out; omega
                      case rel => exact ⟨(wrap64 (x10_6 + 1)), (x267000_6), (x267001_6), (x267002_6), (t286), (.slice Ao70 t286.length co70), (by first | rfl | (simp; done) | exact congrArg (Value.int .i64) (by unfold wrap64; omega) | (simp [*]; done)), H', ⟨by have := HJ7.out; have := HJ18.out; have := HJ22.out; have := HJ30.out; have := HJ34.out; have := HK6.out; have := HJ42.out; omega⟩, ⟨by (with_reducible repeat (first | apply Kd.V_alloc | apply Kd.V_drewN | apply Kd.V_drew)); exact Kd.V_mono (Kd.V_far (p := ⟨gb267, 3, none⟩) (Kd.V_mono HO288.out (fun k_ hk => (⟨hk, hk.2.2⟩ : _ ∧ k_ ≠ gb267))) (fun _ hk => hk.2) (.slice Ao70 t286.length co70)) (fun _ hk => ⟨hk.1.1, ⟨hk.1.2.1, hk.1.2.2⟩⟩)⟩, ⟨by (with_reducible repeat (first | refine blk_drewN ?_ _ | refine blk_drew ?_ | refine blk_alloc ?_ _)); refine blk_far ?_ NB266_267.out _; (with_reducible repeat (first | refine blk_drewN ?_ _ | refine blk_drew ?_ | refine blk_alloc ?_ _)); exact BK266.out⟩, ⟨by (with_reducible repeat (first | refine blk_drewN ?_ _ | refine blk_drew ?_ | refine blk_alloc ?_ _)); refine blk_put (cs := #[.string x268000_7, .string x268001_22, .string x268002_34, .slice Ao68 x268003_6.length co68, .slice none 0 0]) ?_ 3 _ (by first | rfl | simp); (with_reducible repeat (first | refine blk_drewN ?_ _ | refine blk_drew ?_ | refine blk_alloc ?_ _)); exact BK267.out⟩, ⟨by repeat (first | (with_reducible first | exact HB.out | apply below_alloc | apply pw_below_drewN | apply below_drew1 | refine below_set ?_ GE266.out | refine below_set ?_ GE267.out) | exact HB.out)⟩⟩
                    ·replace c52 := Bool.eq_false_iff.mpr c52
                     subst c52
                     have H1 : (if x10_6 < (l1.length : Int) then (some (x268000_7, x268001_22, x268002_34, x268003_6, ([] : List (S39)), rd l1 x10_6, 6)) else (none)) = some (r1, r2, r3, r4, r5, r6, r7) := by rw [if_neg (show ¬ (false = true) by decide)] at H; exact H
                     clear H
                     have H := H1
                     clear H1
                     by_cases c73 : x10_6 < (l1.length : Int)
                     ·rw [if_pos c73] at H
                      have c73b0 : decide (x10_6 < (l1.length : Int)) = true := decide_eq_true c73
                      clear c73
                      simp only [Option.some.injEq, Prod.mk.injEq] at H
                      obtain ⟨rfl, rfl, rfl, rfl, rfl, rfl, rfl⟩ := H
                      try go_wp2
                      replace HO_268003 := Aside0.mk (Kd.V_drew HO_268003.out)
                      replace BK266 := Aside0.mk (blk_drew BK266.out)
                      replace BK267 := Aside0.mk (blk_drew BK267.out)
                      replace HB := Aside0.mk (below_drew1 HB.out)
                      have p284 : 0 ≤ (x10_6 : Int) := of_decide_eq_true (by first | (with_reducible assumption) | assumption)
                      have q284 : x10_6 < (l0.length : Int) := of_decide_eq_true (by first | (with_reducible assumption) | assumption)
                      obtain ⟨ad284, e284, hx284_0⟩ := Kd.at_string HR0.out x10_6 p284 q284
                      have hw284_0 := hx284_0
                      obtain rfl : ad268 = ad284 := (by injection e284)
                      replace hx284_0 := (HB.out.cell (World.block_lt_of_cell? w _ hx284_0)).trans hx284_0
                      replace p284 := eq_true p284
                      replace q284 := eq_true q284
                      refine start_ (n := 13) (S := fun w' => w'.cell? ⟨gb267, 0, none⟩ = some (.string x268000_7) ∧ w'.cell? ⟨gb267, 1, none⟩ = some (.string x268001_22) ∧ w'.cell? ⟨gb267, 2, none⟩ = some (.string x268002_34) ∧ w'.cell? ⟨gb267, 3, none⟩ = some (u268003) ∧ w'.cell? ⟨gb267, 4, none⟩ = some (.slice none 0 0) ∧ w'.cell? (ad268.add (x10_6).toNat) = some (.string (rdOf ByteArray.empty l0 x10_6))) (ds := []) (bmp 13 0) (by kernel_rfl) rfl rfl ⟨(blk_cell BK267.out 0).trans rfl, (blk_cell BK267.out 1).trans rfl, (blk_cell BK267.out 2).trans rfl, (blk_cell BK267.out 3).trans rfl, (blk_cell BK267.out 4).trans rfl, ((HB.out.cell (World.block_lt_of_cell? w _ hw284_0)).trans hw284_0)⟩ (fun hHeld => ?_); refine with_tabW idiomref07_read.tab14 idiomref07_read.bits14 (fun HT_ HW_ => ?_)
                      generalize wc.drew = w74 at HO_268003 BK266 BK267 HB hx284_0 hHeld ⊢
                      refine pu_ HT_ ?_
                      refine pure_ (i := 2) (N := some 84) (v := ?_) (a' := ?_) (bm 13 5) rfl rfl (any_of HT_.out (by kernel_rfl)) (fun _ _ _ h => h) (Or.inl ⟨by rfl, ?_⟩) ?_ ?_
                      rotate_left
                      ·intro w'
                       go_simp
                       with_reducible rfl
                      rotate_left
                      ·simp only [Act.put, List.setIfInBounds_toArray, List.set_cons_zero, List.set_cons_succ, i64_w, i32_w]
                       rfl
                      refine pure_ (i := 3) (N := some 85) (v := ?_) (a' := ?_) (bm 13 13) rfl rfl (any_of HT_.out (by kernel_rfl)) (fun _ _ _ h => h) (Or.inl ⟨by rfl, ?_⟩) ?_ ?_
                      rotate_left
                      ·intro w'
                       go_simp
                       with_reducible rfl
                      rotate_left
                      ·simp only [Act.put, List.setIfInBounds_toArray, List.set_cons_zero, List.set_cons_succ, i64_w, i32_w]
                       rfl
                      refine pure_ (i := 4) (N := some 86) (v := ?_) (a' := ?_) (bm 13 29) rfl rfl (any_of HT_.out (by kernel_rfl)) (fun _ _ _ h => h) (Or.inl ⟨by rfl, ?_⟩) ?_ ?_
                      rotate_left
                      ·intro w'
                       go_simp
                       with_reducible rfl
                      rotate_left
                      ·simp only [Act.put, List.setIfInBounds_toArray, List.set_cons_zero, List.set_cons_succ, i64_w, i32_w]
                       rfl
                      refine take_ (i := 1) (N := some 83) (v := ?_) (a' := ?_) (bmp 13 5) rfl rfl (take_ofW HT_.out HW_.out (by kernel_rfl)) (fun _ _ _ h => h) (Or.inl ⟨by rfl, ?_⟩) hHeld ?_ ?_
                      rotate_left
                      ·rintro w' ⟨s0, s1, s2, s3, s4, s5⟩
                       go_simp
                       with_reducible rfl
                      rotate_left
                      ·simp only [Act.put, List.setIfInBounds_toArray, List.set_cons_zero, List.set_cons_succ, i64_w, i32_w]
                       rfl
                      refine tk_ HT_ HW_ hHeld ?_
                      refine one_ (i := 6) (N := some 88) (bmp 13 7) rfl rfl (one_of HT_.out (by kernel_rfl)) (by decide) (fun K hK => ?_)
                      refine goes_ Tryz.func29 (by kernel_rfl) rfl #[.string (rdOf ByteArray.empty l0 x10_6)] (by rfl) rfl rfl (by (try simp only [List.map_toArray, List.map_cons, List.map_nil]); first | done | rfl | (simp only [List.length_drop, List.length_take]; rfl)) ?_
                      with_reducible refine (idiomref07_Small.calls (rdOf ByteArray.empty l0 x10_6) t285 _ A50.out).mono ?_
                      rintro e w75 ⟨rfl, hb⟩
                      refine ⟨_, rfl, ?_⟩
                      replace HO_268003 := Aside0.mk (Kd.V_below (va_ HO_268003) hb)
                      replace BK266 := Aside0.mk (blk_below (g := gb266) (o := .cells #[.string x267000_6, .string x267001_6, .string x267002_6, .slice none 0 0, .slice none 0 0] 25 (0, 0)) (bk_ BK266) hb)
                      replace BK267 := Aside0.mk (blk_below (g := gb267) (o := .cells #[.string x268000_7, .string x268001_22, .string x268002_34, u268003, .slice none 0 0] 25 (0, 0)) (bk_ BK267) hb)
                      replace HB := Aside0.mk (below_step (by repeat (first | (with_reducible first | exact HB.out | apply below_alloc | apply pw_below_drewN | apply below_drew1 | refine below_set ?_ GE266.out | refine below_set ?_ GE267.out) | exact HB.out)) hb)
                      (try clear hb)
                      (try clear hb2)
                      (try clear hk)
                      (try clear hi)
                      obtain ⟨Ao76, co76, eo76⟩ := Kd.V_slice HO_268003.out
                      (first | subst eo76 | (injection eo76 with f1_ f2_ f3_; have f4_ := f1_.symm; have f5_ := f3_.symm; clear f1_ f2_ f3_; subst f4_; subst f5_))
                      refine hK.out _ _ ⟨(blk_cell BK267.out 0).trans rfl, (blk_cell BK267.out 1).trans rfl, (blk_cell BK267.out 2).trans rfl, (blk_cell BK267.out 3).trans rfl, (blk_cell BK267.out 4).trans rfl, ((HB.out.cell (World.block_lt_of_cell? w _ hw284_0)).trans hw284_0)⟩ (fun hHeld => ?_)
                      clear hK K
                      refine norm_ (a' := ?_) ?_ ?_
                      rotate_left
                      ·show Act.put _ (some 88) _ = _
                       simp only [Act.put, List.setIfInBounds_toArray, List.set_cons_zero, List.set_cons_succ, i64_w, i32_w]
                       rfl
                      refine one_ (i := 7) (N := some 89) (bmp 13 8) rfl rfl (one_of HT_.out (by kernel_rfl)) (by decide) (fun K hK => ?_)
                      refine goes_ Tryz.func81 (by kernel_rfl) rfl #[.slice Ao76 x268003_6.length co76, .string t285] (by rfl) rfl rfl (by (try simp only [List.map_toArray, List.map_cons, List.map_nil]); first | done | rfl | (simp only [List.length_drop, List.length_take]; rfl)) ?_
                      with_reducible refine (idiomref07_put.calls kj42 (fun k_ => ((w.heap.size ≤ k_) ∧ (k_ ≠ gb266 ∧ k_ ≠ gb267))) _ _ x268003_6 t285 t286 false _ ?side1 A51.out).mono ?_
                      (case side1 => exact HO_268003.out)
                      rintro e w77 ⟨v287, rfl, ho0, hb⟩
                      refine ⟨_, rfl, ?_⟩
                      replace HO_268003 := Aside0.mk (Kd.V_below (va_ HO_268003) hb)
                      have HO288 := Aside0.mk (Kd.V_lower (Kd.V_mono (ok' := fun k_ => (w.heap.size ≤ k_) ∧ k_ ≠ gb266 ∧ k_ ≠ gb267) ho0 (fun k_ hk_ => ⟨Or.elim hk_ (fun hs_ => hs_.1) (fun hn_ => (Nat.le_trans (below_size (by repeat (first | (with_reducible first | exact HB.out | apply below_alloc | apply pw_below_drewN | apply below_drew1 | refine below_set ?_ GE266.out | refine below_set ?_ GE267.out) | exact HB.out))) hn_)), Or.elim hk_ (fun hs_ => hs_.2.1) (fun hn_ => (Kd.freshB (g := gb266) (o := .cells #[.string x267000_6, .string x267001_6, .string x267002_6, .slice none 0 0, .slice none 0 0] 25 (0, 0)) (bk_ BK266) k_ hn_)), Or.elim hk_ (fun hs_ => hs_.2.2) (fun hn_ => (Kd.freshB (g := gb267) (o := .cells #[.string x268000_7, .string x268001_22, .string x268002_34, .slice Ao76 x268003_6.length co76, .slice none 0 0] 25 (0, 0)) (bk_ BK267) k_ hn_))⟩)) (below_size (by repeat (first | (with_reducible first | exact HB.out | apply below_alloc | apply pw_below_drewN | apply below_drew1 | refine below_set ?_ GE266.out | refine below_set ?_ GE267.out) | exact HB.out))))
                      replace BK266 := Aside0.mk (blk_below (g := gb266) (o := .cells #[.string x267000_6, .string x267001_6, .string x267002_6, .slice none 0 0, .slice none 0 0] 25 (0, 0)) (bk_ BK266) hb)
                      replace BK267 := Aside0.mk (blk_below (g := gb267) (o := .cells #[.string x268000_7, .string x268001_22, .string x268002_34, .slice Ao76 x268003_6.length co76, .slice none 0 0] 25 (0, 0)) (bk_ BK267) hb)
                      replace HB := Aside0.mk (below_step (by repeat (first | (with_reducible first | exact HB.out | apply below_alloc | apply pw_below_drewN | apply below_drew1 | refine below_set ?_ GE266.out | refine below_set ?_ GE267.out) | exact HB.out)) hb)
                      (try clear hb)
                      (try clear hb2)
                      (try clear hk)
                      (try clear hi)
                      (try clear ho0)
                      refine hK.out _ _ ⟨(blk_cell BK267.out 0).trans rfl, (blk_cell BK267.out 1).trans rfl, (blk_cell BK267.out 2).trans rfl, (blk_cell BK267.out 3).trans rfl, (blk_cell BK267.out 4).trans rfl, ((HB.out.cell (World.block_lt_of_cell? w _ hw284_0)).trans hw284_0)⟩ (fun hHeld => ?_)
                      clear hK K
                      refine norm_ (a' := ?_) ?_ ?_
                      rotate_left
                      ·show Act.put _ (some 89) _ = _
                       simp only [Act.put, List.setIfInBounds_toArray, List.set_cons_zero, List.set_cons_succ, i64_w, i32_w]
                       rfl
                      iterate 5 (refine pu_ HT_ ?_)
                      refine done_ (done_of HT_.out (by kernel_rfl)) ?_
                      try go_wp2
                      replace HO_268003 := Aside0.mk (Kd.V_drew HO_268003.out)
                      replace HO288 := Aside0.mk (Kd.V_drew HO288.out)
                      replace BK266 := Aside0.mk (blk_drew BK266.out)
                      replace BK267 := Aside0.mk (blk_drew BK267.out)
                      replace HB := Aside0.mk (below_drew1 HB.out)
                      have p290 : 0 ≤ (x10_6 : Int) := of_decide_eq_true (by first | (with_reducible assumption) | assumption)
                      have q290 : x10_6 < (l1.length : Int) := of_decide_eq_true (by first | (with_reducible assumption) | assumption)
                      obtain ⟨ad290, e290, hx290_0⟩ := Kd.at_int HR1.out x10_6 p290 q290
                      have hw290_0 := hx290_0
                      cases e290
                      replace hx290_0 := (HB.out.cell (World.block_lt_of_cell? w _ hx290_0)).trans hx290_0
                      replace p290 := eq_true p290
                      replace q290 := eq_true q290
                      refine start_ (n := 8) (S := fun w' => w'.cell? ⟨gb267, 0, none⟩ = some (.string x268000_7) ∧ w'.cell? ⟨gb267, 1, none⟩ = some (.string x268001_22) ∧ w'.cell? ⟨gb267, 2, none⟩ = some (.string x268002_34) ∧ w'.cell? ⟨gb267, 3, none⟩ = some (.slice Ao76 x268003_6.length co76) ∧ w'.cell? ⟨gb267, 4, none⟩ = some (.slice none 0 0) ∧ w'.cell? (ad290.add (x10_6).toNat) = some (.int .i64 (rd l1 x10_6))) (ds := []) (bmp 8 0) (by kernel_rfl) rfl rfl ⟨(blk_cell BK267.out 0).trans rfl, (blk_cell BK267.out 1).trans rfl, (blk_cell BK267.out 2).trans rfl, (blk_cell BK267.out 3).trans rfl, (blk_cell BK267.out 4).trans rfl, ((HB.out.cell (World.block_lt_of_cell? w _ hw290_0)).trans hw290_0)⟩ (fun hHeld => ?_); refine with_tabW idiomref07_read.tab16 idiomref07_read.bits16 (fun HT_ HW_ => ?_)
                      generalize w77.drew = w78 at HO_268003 HO288 BK266 BK267 HB hx290_0 hHeld ⊢
                      refine pure_ (i := 1) (N := some 95) (v := ?_) (a' := ?_) (bm 8 2) rfl rfl (any_of HT_.out (by kernel_rfl)) (fun _ _ _ h => h) (Or.inl ⟨by rfl, ?_⟩) ?_ ?_
                      rotate_left
                      ·intro w'
                       go_simp
                       with_reducible rfl
                      rotate_left
                      ·simp only [Act.put, List.setIfInBounds_toArray, List.set_cons_zero, List.set_cons_succ, i64_w, i32_w]
                       rfl
                      refine pure_ (i := 2) (N := some 96) (v := ?_) (a' := ?_) (bm 8 6) rfl rfl (any_of HT_.out (by kernel_rfl)) (fun _ _ _ h => h) (Or.inl ⟨by rfl, ?_⟩) ?_ ?_
                      rotate_left
                      ·intro w'
                       go_simp
                       with_reducible rfl
                      rotate_left
                      ·simp only [Act.put, List.setIfInBounds_toArray, List.set_cons_zero, List.set_cons_succ, i64_w, i32_w]
                       rfl
                      refine pure_ (i := 3) (N := some 97) (v := ?_) (a' := ?_) (bm 8 14) rfl rfl (any_of HT_.out (by kernel_rfl)) (fun _ _ _ h => h) (Or.inl ⟨by rfl, ?_⟩) ?_ ?_
                      rotate_left
                      ·intro w'
                       go_simp
                       with_reducible rfl
                      rotate_left
                      ·simp only [Act.put, List.setIfInBounds_toArray, List.set_cons_zero, List.set_cons_succ, i64_w, i32_w]
                       rfl
                      refine take_ (i := 0) (N := some 94) (v := ?_) (a' := ?_) (bmp 8 4) rfl rfl (take_ofW HT_.out HW_.out (by kernel_rfl)) (fun _ _ _ h => h) (Or.inl ⟨by rfl, ?_⟩) hHeld ?_ ?_
                      rotate_left
                      ·rintro w' ⟨s0, s1, s2, s3, s4, s5⟩
                       go_simp
                       with_reducible rfl
                      rotate_left
                      ·simp only [Act.put, List.setIfInBounds_toArray, List.set_cons_zero, List.set_cons_succ, i64_w, i32_w]
                       rfl
                      refine tk_ HT_ HW_ hHeld ?_
                      refine one_ (i := 5) (N := none) (bmp 8 6) rfl rfl (one_of HT_.out (by kernel_rfl)) (by decide) (fun K hK => ?_)
                      have hs79 : w78.cell? ⟨gb266, 0, none⟩ = some (.string x267000_6) := (blk_cell BK266.out 0).trans rfl
                      have hfs79 := blk_frozen BK266.out 0
                      have hns79_1 := NB267_266.out
                      have hms79_1 := NB266_267.out
                      have hs80 : w78.cell? ⟨gb266, 1, none⟩ = some (.string x267001_6) := (blk_cell BK266.out 1).trans rfl
                      have hfs80 := blk_frozen BK266.out 1
                      have hns80_1 := NB267_266.out
                      have hms80_1 := NB266_267.out
                      have hs81 : w78.cell? ⟨gb266, 2, none⟩ = some (.string x267002_6) := (blk_cell BK266.out 2).trans rfl
                      have hfs81 := blk_frozen BK266.out 2
                      have hns81_1 := NB267_266.out
                      have hms81_1 := NB266_267.out
                      have hs82 : w78.cell? ⟨gb266, 3, none⟩ = some (.slice none 0 0) := (blk_cell BK266.out 3).trans rfl
                      have hfs82 := blk_frozen BK266.out 3
                      have hns82_1 := NB267_266.out
                      have hms82_1 := NB266_267.out
                      have hs83 : w78.cell? ⟨gb266, 4, none⟩ = some (.slice none 0 0) := (blk_cell BK266.out 4).trans rfl
                      have hfs83 := blk_frozen BK266.out 4
                      have hns83_1 := NB267_266.out
                      have hms83_1 := NB266_267.out
                      refine skip_ (w1 := ?_) (by rfl) rfl ?_ ?_
                      rotate_left
                      ·go_simp
                       rfl
                      refine hK.out _ _ ⟨((cell_far (p := ⟨gb266, _, none⟩) NB267_266.out _).trans (((cell_far (p := ⟨gb266, _, none⟩) NB267_266.out _).trans (((cell_far (p := ⟨gb266, _, none⟩) NB267_266.out _).trans (((cell_far (p := ⟨gb266, _, none⟩) NB267_266.out _).trans (((cell_far (p := ⟨gb266, _, none⟩) NB267_266.out _).trans (hHeld.1)))))))))), ((cell_far (p := ⟨gb266, _, none⟩) NB267_266.out _).trans (((cell_far (p := ⟨gb266, _, none⟩) NB267_266.out _).trans (((cell_far (p := ⟨gb266, _, none⟩) NB267_266.out _).trans (((cell_far (p := ⟨gb266, _, none⟩) NB267_266.out _).trans (((cell_far (p := ⟨gb266, _, none⟩) NB267_266.out _).trans (hHeld.2.1)))))))))), ((cell_far (p := ⟨gb266, _, none⟩) NB267_266.out _).trans (((cell_far (p := ⟨gb266, _, none⟩) NB267_266.out _).trans (((cell_far (p := ⟨gb266, _, none⟩) NB267_266.out _).trans (((cell_far (p := ⟨gb266, _, none⟩) NB267_266.out _).trans (((cell_far (p := ⟨gb266, _, none⟩) NB267_266.out _).trans (hHeld.2.2.1)))))))))), ((cell_far (p := ⟨gb266, _, none⟩) NB267_266.out _).trans (((cell_far (p := ⟨gb266, _, none⟩) NB267_266.out _).trans (((cell_far (p := ⟨gb266, _, none⟩) NB267_266.out _).trans (((cell_far (p := ⟨gb266, _, none⟩) NB267_266.out _).trans (((cell_far (p := ⟨gb266, _, none⟩) NB267_266.out _).trans (hHeld.2.2.2.1)))))))))), ((cell_far (p := ⟨gb266, _, none⟩) NB267_266.out _).trans (((cell_far (p := ⟨gb266, _, none⟩) NB267_266.out _).trans (((cell_far (p := ⟨gb266, _, none⟩) NB267_266.out _).trans (((cell_far (p := ⟨gb266, _, none⟩) NB267_266.out _).trans (((cell_far (p := ⟨gb266, _, none⟩) NB267_266.out _).trans (hHeld.2.2.2.2.1)))))))))), ((cell_far (p := ⟨gb266, _, none⟩) (by first | exact Nat.ne_of_lt (Nat.lt_of_lt_of_le (by have := World.block_lt_of_cell? _ _ hw290_0; first | rwa [add_block] at this | exact this) GW266.out) | (rw [add_block]; exact Nat.ne_of_lt (Nat.lt_of_lt_of_le (by have := World.block_lt_of_cell? _ _ hw290_0; first | rwa [add_block] at this | exact this) GW266.out)) | (show (Addr.add _ _).block ≠ _; rw [add_block]; exact Nat.ne_of_lt (Nat.lt_of_lt_of_le (by have := World.block_lt_of_cell? _ _ hw290_0; first | rwa [add_block] at this | exact this) GW266.out)) | (dsimp only; exact Nat.ne_of_lt (Nat.lt_of_lt_of_le (by have := World.block_lt_of_cell? _ _ hw290_0; first | rwa [add_block] at this | exact this) GW266.out))) _).trans (((cell_far (p := ⟨gb266, _, none⟩) (by first | exact Nat.ne_of_lt (Nat.lt_of_lt_of_le (by have := World.block_lt_of_cell? _ _ hw290_0; first | rwa [add_block] at this | exact this) GW266.out) | (rw [add_block]; exact Nat.ne_of_lt (Nat.lt_of_lt_of_le (by have := World.block_lt_of_cell? _ _ hw290_0; first | rwa [add_block] at this | exact this) GW266.out)) | (show (Addr.add _ _).block ≠ _; rw [add_block]; exact Nat.ne_of_lt (Nat.lt_of_lt_of_le (by have := World.block_lt_of_cell? _ _ hw290_0; first | rwa [add_block] at this | exact this) GW266.out)) | (dsimp only; exact Nat.ne_of_lt (Nat.lt_of_lt_of_le (by have := World.block_lt_of_cell? _ _ hw290_0; first | rwa [add_block] at this | exact this) GW266.out))) _).trans (((cell_far (p := ⟨gb266, _, none⟩) (by first | exact Nat.ne_of_lt (Nat.lt_of_lt_of_le (by have := World.block_lt_of_cell? _ _ hw290_0; first | rwa [add_block] at this | exact this) GW266.out) | (rw [add_block]; exact Nat.ne_of_lt (Nat.lt_of_lt_of_le (by have := World.block_lt_of_cell? _ _ hw290_0; first | rwa [add_block] at this | exact this) GW266.out)) | (show (Addr.add _ _).block ≠ _; rw [add_block]; exact Nat.ne_of_lt (Nat.lt_of_lt_of_le (by have := World.block_lt_of_cell? _ _ hw290_0; first | rwa [add_block] at this | exact this) GW266.out)) | (dsimp only; exact Nat.ne_of_lt (Nat.lt_of_lt_of_le (by have := World.block_lt_of_cell? _ _ hw290_0; first | rwa [add_block] at this | exact this) GW266.out))) _).trans (((cell_far (p := ⟨gb266, _, none⟩) (by first | exact Nat.ne_of_lt (Nat.lt_of_lt_of_le (by have := World.block_lt_of_cell? _ _ hw290_0; first | rwa [add_block] at this | exact this) GW266.out) | (rw [add_block]; exact Nat.ne_of_lt (Nat.lt_of_lt_of_le (by have := World.block_lt_of_cell? _ _ hw290_0; first | rwa [add_block] at this | exact this) GW266.out)) | (show (Addr.add _ _).block ≠ _; rw [add_block]; exact Nat.ne_of_lt (Nat.lt_of_lt_of_le (by have := World.block_lt_of_cell? _ _ hw290_0; first | rwa [add_block] at this | exact this) GW266.out)) | (dsimp only; exact Nat.ne_of_lt (Nat.lt_of_lt_of_le (by have := World.block_lt_of_cell? _ _ hw290_0; first | rwa [add_block] at this | exact this) GW266.out))) _).trans (((cell_far (p := ⟨gb266, _, none⟩) (by first | exact Nat.ne_of_lt (Nat.lt_of_lt_of_le (by have := World.block_lt_of_cell? _ _ hw290_0; first | rwa [add_block] at this | exact this) GW266.out) | (rw [add_block]; exact Nat.ne_of_lt (Nat.lt_of_lt_of_le (by have := World.block_lt_of_cell? _ _ hw290_0; first | rwa [add_block] at this | exact this) GW266.out)) | (show (Addr.add _ _).block ≠ _; rw [add_block]; exact Nat.ne_of_lt (Nat.lt_of_lt_of_le (by have := World.block_lt_of_cell? _ _ hw290_0; first | rwa [add_block] at this | exact this) GW266.out)) | (dsimp only; exact Nat.ne_of_lt (Nat.lt_of_lt_of_le (by have := World.block_lt_of_cell? _ _ hw290_0; first | rwa [add_block] at this | exact this) GW266.out))) _).trans (hHeld.2.2.2.2.2))))))))))⟩ (fun hHeld => ?_)
                      clear hK K
                      iterate 2 (refine pu_ HT_ ?_)
                      refine done_ (done_of HT_.out (by kernel_rfl)) ?_
                      try go_wp2
                      refine bodyPost_ret (results_ctt rfl _ _ gb266 25 #[.string x268000_7, .string x268001_22, .string x268002_34, .slice Ao76 x268003_6.length co76, .slice none 0 0] (0, 0) _ rfl (by (with_reducible repeat (first | refine blk_drewN ?_ _ | refine blk_drew ?_ | refine blk_alloc ?_ _)); refine blk_put (cs := #[.string x268000_7, .string x268001_22, .string x268002_34, .slice Ao76 x268003_6.length co76, .slice none 0 0]) ?_ 4 _ rfl; (with_reducible repeat (first | refine blk_drewN ?_ _ | refine blk_drew ?_ | refine blk_alloc ?_ _)); refine blk_put (cs := #[.string x268000_7, .string x268001_22, .string x268002_34, .slice none 0 0, .slice none 0 0]) ?_ 3 _ (by first | rfl | simp); (with_reducible repeat (first | refine blk_drewN ?_ _ | refine blk_drew ?_ | refine blk_alloc ?_ _)); refine blk_put (cs := #[.string x268000_7, .string x268001_22, .string x267002_6, .slice none 0 0, .slice none 0 0]) ?_ 2 _ rfl; (with_reducible repeat (first | refine blk_drewN ?_ _ | refine blk_drew ?_ | refine blk_alloc ?_ _)); refine blk_put (cs := #[.string x268000_7, .string x267001_6, .string x267002_6, .slice none 0 0, .slice none 0 0]) ?_ 1 _ rfl; (with_reducible repeat (first | refine blk_drewN ?_ _ | refine blk_drew ?_ | refine blk_alloc ?_ _)); refine blk_put (cs := #[.string x267000_6, .string x267001_6, .string x267002_6, .slice none 0 0, .slice none 0 0]) ?_ 0 _ rfl; (with_reducible repeat (first | refine blk_drewN ?_ _ | refine blk_drew ?_ | refine blk_alloc ?_ _)); exact BK266.out) Tryz.underlying25 rfl (by kernel_rfl)) rfl ?_
                      exact ⟨_, _, by first | rfl | (simp [errW_none, errW_some] <;> rfl) | (simp [*, errW_none, errW_some] <;> rfl), by (with_reducible repeat (first | apply Kd.V_alloc | apply Kd.V_drewN | apply Kd.V_drew)); exact Kd.V_mono (Kd.V_far (p := ⟨gb266, 4, none⟩) (Kd.V_far (p := ⟨gb266, 3, none⟩) (Kd.V_far (p := ⟨gb266, 2, none⟩) (Kd.V_far (p := ⟨gb266, 1, none⟩) (Kd.V_far (p := ⟨gb266, 0, none⟩) (Kd.V_mono HO_268003.out (fun k_ hk => (⟨hk, hk.2.1⟩ : _ ∧ k_ ≠ gb266))) (fun _ hk => hk.2) (.string x268000_7)) (fun _ hk => hk.2) (.string x268001_22)) (fun _ hk => hk.2) (.string x268002_34)) (fun _ hk => hk.2) (.slice Ao76 x268003_6.length co76)) (fun _ hk => hk.2) (.slice none 0 0)) (fun _ hk => hk.1.1), Kd.R_V (base := w.heap.size) (by first | exact Kd.R_nil _ _ _ _ _ | exact Kd.N_nil _ _ _ _ _ | exact Kd.V_nil _ _ _ _ _ | exact Kd.Q_nil _ _ _ _ _ | exact Kd.S_nil _ _ _ _ _), by repeat (first | (with_reducible first | exact HB.out | apply below_alloc | apply pw_below_drewN | apply below_drew1 | refine below_set ?_ GE266.out | refine below_set ?_ GE267.out) | exact HB.out)⟩
                     ·rw [if_neg c73] at H
                      exact absurd H (by simp)
                   ·rw [if_neg c49] at H
                    exact absurd H (by simp)
                  ·rw [if_neg c48] at H
                   exact absurd H (by simp)
                 ·replace c47 := Bool.eq_false_iff.mpr c47
                  subst c47
                  have H1 : (if x10_6 = (l0.length : Int) then (some (x268000_7, x268001_22, x268002_34, x268003_6, ([] : List (S39)), 0, 0)) else (if 0 ≤ x10_6 then (if x10_6 < (l0.length : Int) then ((idiomref07_Small.f (rdOf ByteArray.empty l0 x10_6)).bind fun t293 => (if t293.toList = ([117] : List UInt8) then ((idiomref07_keys.f kj42 x268000_7 x268001_22 x268002_34 x268003_6 ([] : List (S39)) l0 l1 (wrap64 (x10_6 + 1)) a2).bind fun bt295 => (some (bt295.1, bt295.2.1, bt295.2.2.1, bt295.2.2.2.1, bt295.2.2.2.2.1, bt295.2.2.2.2.2.1, bt295.2.2.2.2.2.2))) else (if x10_6 < (l1.length : Int) then (some (x268000_7, x268001_22, x268002_34, x268003_6, ([] : List (S39)), rd l1 x10_6, 70)) else (none)))) else (none)) else (none))) = some (r1, r2, r3, r4, r5, r6, r7) := by rw [if_neg (show ¬ (false = true) by decide)] at H; exact H
                  clear H
                  have H := H1
                  clear H1
                  by_cases c84 : x10_6 = (l0.length : Int)
                  ·rw [if_pos c84] at H
                   have c84b0 : (x10_6 == (l0.length : Int)) = true := beq_iff_eq.mpr c84
                   have c84b1 : (x10_6 != (l0.length : Int)) = false := bne_eq_false_iff_eq.mpr c84
                   clear c84
                   simp only [Option.some.injEq, Prod.mk.injEq] at H
                   obtain ⟨rfl, rfl, rfl, rfl, rfl, rfl, rfl⟩ := H
                   have hnb85 := NB267_266.out
                   have hnc85 := NB266_267.out
                   have hcz86_0 : wc.cell? ⟨gb267, 0, none⟩ = some (.string x268000_7) := (blk_cell BK267.out 0).trans rfl
                   have hcz86_1 : wc.cell? ⟨gb267, 1, none⟩ = some (.string x268001_22) := (blk_cell BK267.out 1).trans rfl
                   have hcz86_2 : wc.cell? ⟨gb267, 2, none⟩ = some (.string x268002_34) := (blk_cell BK267.out 2).trans rfl
                   have hcz86_3 : wc.cell? ⟨gb267, 3, none⟩ = some (u268003) := (blk_cell BK267.out 3).trans rfl
                   have hcz86_4 : wc.cell? ⟨gb267, 4, none⟩ = some (.slice none 0 0) := (blk_cell BK267.out 4).trans rfl
                   have hfz86_0 := blk_frozen BK267.out 0
                   have hfz86_1 := blk_frozen BK267.out 1
                   have hfz86_2 := blk_frozen BK267.out 2
                   have hfz86_3 := blk_frozen BK267.out 3
                   have hfz86_4 := blk_frozen BK267.out 4
                   have hcz87_0 : wc.cell? ⟨gb266, 0, none⟩ = some (.string x267000_6) := (blk_cell BK266.out 0).trans rfl
                   have hcz87_1 : wc.cell? ⟨gb266, 1, none⟩ = some (.string x267001_6) := (blk_cell BK266.out 1).trans rfl
                   have hcz87_2 : wc.cell? ⟨gb266, 2, none⟩ = some (.string x267002_6) := (blk_cell BK266.out 2).trans rfl
                   have hcz87_3 : wc.cell? ⟨gb266, 3, none⟩ = some (.slice none 0 0) := (blk_cell BK266.out 3).trans rfl
                   have hcz87_4 : wc.cell? ⟨gb266, 4, none⟩ = some (.slice none 0 0) := (blk_cell BK266.out 4).trans rfl
                   have hfz87_0 := blk_frozen BK266.out 0
                   have hfz87_1 := blk_frozen BK266.out 1
                   have hfz87_2 := blk_frozen BK266.out 2
                   have hfz87_3 := blk_frozen BK266.out 3
                   have hfz87_4 := blk_frozen BK266.out 4
                   obtain ⟨Ao88, co88, eo88⟩ := Kd.V_slice HO_268003.out
                   subst eo88
                   go_wp2
                   refine bodyPost_ret (results_ctt rfl _ _ gb266 25 #[.string x268000_7, .string x268001_22, .string x268002_34, .slice Ao88 x268003_6.length co88, .slice none 0 0] (0, 0) _ rfl (by (with_reducible repeat (first | refine blk_drewN ?_ _ | refine blk_drew ?_ | refine blk_alloc ?_ _)); refine blk_put (cs := #[.string x268000_7, .string x268001_22, .string x268002_34, .slice Ao88 x268003_6.length co88, .slice none 0 0]) ?_ 4 _ rfl; (with_reducible repeat (first | refine blk_drewN ?_ _ | refine blk_drew ?_ | refine blk_alloc ?_ _)); refine blk_put (cs := #[.string x268000_7, .string x268001_22, .string x268002_34, .slice none 0 0, .slice none 0 0]) ?_ 3 _ (by first | rfl | simp); (with_reducible repeat (first | refine blk_drewN ?_ _ | refine blk_drew ?_ | refine blk_alloc ?_ _)); refine blk_put (cs := #[.string x268000_7, .string x268001_22, .string x267002_6, .slice none 0 0, .slice none 0 0]) ?_ 2 _ rfl; (with_reducible repeat (first | refine blk_drewN ?_ _ | refine blk_drew ?_ | refine blk_alloc ?_ _)); refine blk_put (cs := #[.string x268000_7, .string x267001_6, .string x267002_6, .slice none 0 0, .slice none 0 0]) ?_ 1 _ rfl; (with_reducible repeat (first | refine blk_drewN ?_ _ | refine blk_drew ?_ | refine blk_alloc ?_ _)); refine blk_put (cs := #[.string x267000_6, .string x267001_6, .string x267002_6, .slice none 0 0, .slice none 0 0]) ?_ 0 _ rfl; (with_reducible repeat (first | refine blk_drewN ?_ _ | refine blk_drew ?_ | refine blk_alloc ?_ _)); exact BK266.out) Tryz.underlying25 rfl (by kernel_rfl)) rfl ?_
                   exact ⟨_, _, by first | rfl | (simp [errW_none, errW_some] <;> rfl) | (simp [*, errW_none, errW_some] <;> rfl), by (with_reducible repeat (first | apply Kd.V_alloc | apply Kd.V_drewN | apply Kd.V_drew)); exact Kd.V_mono (Kd.V_far (p := ⟨gb266, 4, none⟩) (Kd.V_far (p := ⟨gb266, 3, none⟩) (Kd.V_far (p := ⟨gb266, 2, none⟩) (Kd.V_far (p := ⟨gb266, 1, none⟩) (Kd.V_far (p := ⟨gb266, 0, none⟩) (Kd.V_mono HO_268003.out (fun k_ hk => (⟨hk, hk.2.1⟩ : _ ∧ k_ ≠ gb266))) (fun _ hk => hk.2) (.string x268000_7)) (fun _ hk => hk.2) (.string x268001_22)) (fun _ hk => hk.2) (.string x268002_34)) (fun _ hk => hk.2) (.slice Ao88 x268003_6.length co88)) (fun _ hk => hk.2) (.slice none 0 0)) (fun _ hk => hk.1.1), Kd.R_V (base := w.heap.size) (by first | exact Kd.R_nil _ _ _ _ _ | exact Kd.N_nil _ _ _ _ _ | exact Kd.V_nil _ _ _ _ _ | exact Kd.Q_nil _ _ _ _ _ | exact Kd.S_nil _ _ _ _ _), by repeat (first | (with_reducible first | exact HB.out | apply below_alloc | apply pw_below_drewN | apply below_drew1 | refine below_set ?_ GE266.out | refine below_set ?_ GE267.out) | exact HB.out)⟩
                  ·rw [if_neg c84] at H
                   have c84b0 : (x10_6 == (l0.length : Int)) = false := beq_eq_false_iff_ne.mpr c84
                   have c84b1 : (x10_6 != (l0.length : Int)) = true := bne_iff_ne.mpr c84
                   by_cases c89 : 0 ≤ x10_6
                   ·rw [if_pos c89] at H
                    have c89b0 : decide (0 ≤ x10_6) = true := decide_eq_true c89
                    clear c89
                    by_cases c90 : x10_6 < (l0.length : Int)
                    ·rw [if_pos c90] at H
                     have c90b0 : decide (x10_6 < (l0.length : Int)) = true := decide_eq_true c90
                     clear c90
                     replace H := Option.bind_eq_some_iff.mp H
                     obtain ⟨t293, A910, H⟩ := H
                     try dsimp only at H
                     have A91 := Aside0.mk A910
                     clear A910
                     by_cases c92 : t293.toList = ([117] : List UInt8)
                     ·rw [if_pos c92] at H
                      have c92b0 : (t293.toList == ([117] : List UInt8)) = true := beq_iff_eq.mpr c92
                      have c92b1 : (t293.toList != ([117] : List UInt8)) = false := bne_eq_false_iff_eq.mpr c92
                      clear c92
                      replace H := Option.bind_eq_some_iff.mp H
                      obtain ⟨⟨t295, t296, t297, t298, t301, t304, t305⟩, A930, H⟩ := H
                      try dsimp only at H
                      have A93 := Aside0.mk A930
                      clear A930
                      simp only [Option.some.injEq, Prod.mk.injEq] at H
                      obtain ⟨rfl, rfl, rfl, rfl, rfl, rfl, rfl⟩ := H
                      have p292 : 0 ≤ (x10_6 : Int) := of_decide_eq_true (by first | (with_reducible assumption) | assumption)
                      have q292 : x10_6 < (l0.length : Int) := of_decide_eq_true (by first | (with_reducible assumption) | assumption)
                      obtain ⟨ad292, e292, hx292_0⟩ := Kd.at_string HR0.out x10_6 p292 q292
                      obtain rfl : ad268 = ad292 := (by injection e292)
                      replace hx292_0 := (HB.out.cell (World.block_lt_of_cell? w _ hx292_0)).trans hx292_0
                      replace p292 := eq_true p292
                      replace q292 := eq_true q292
                      go_wp2_with (first | ((with_reducible refine gate_callee (f := 29) rfl ?_); refine gb_ (some 118) Tryz.func29 #[.string (rdOf ByteArray.empty l0 x10_6)] ?_; (with_reducible refine (idiomref07_Small.calls (rdOf ByteArray.empty l0 x10_6) t293 _ A91.out).mono ?_); rintro e w94 ⟨rfl, hb⟩; refine ⟨_, rfl, ?_⟩; replace HO_268003 := Aside0.mk (Kd.V_below (va_ HO_268003) hb); replace BK266 := Aside0.mk (blk_below (g := gb266) (o := .cells #[.string x267000_6, .string x267001_6, .string x267002_6, .slice none 0 0, .slice none 0 0] 25 (0, 0)) (bk_ BK266) hb); replace BK267 := Aside0.mk (blk_below (g := gb267) (o := .cells #[.string x268000_7, .string x268001_22, .string x268002_34, u268003, .slice none 0 0] 25 (0, 0)) (bk_ BK267) hb); replace HB := Aside0.mk (below_step (by repeat (first | (with_reducible first | exact HB.out | apply below_alloc | apply pw_below_drewN | apply below_drew1 | refine below_set ?_ GE266.out | refine below_set ?_ GE267.out) | exact HB.out)) hb); (try clear hb); (try clear hb2); (try clear hk); (try clear hi); have hnb95 := NB267_266.out; have hnc95 := NB266_267.out; have hcz96_0 : w94.cell? ⟨gb267, 0, none⟩ = some (.string x268000_7) := (blk_cell BK267.out 0).trans rfl; have hcz96_1 : w94.cell? ⟨gb267, 1, none⟩ = some (.string x268001_22) := (blk_cell BK267.out 1).trans rfl; have hcz96_2 : w94.cell? ⟨gb267, 2, none⟩ = some (.string x268002_34) := (blk_cell BK267.out 2).trans rfl; have hcz96_3 : w94.cell? ⟨gb267, 3, none⟩ = some (u268003) := (blk_cell BK267.out 3).trans rfl; have hcz96_4 : w94.cell? ⟨gb267, 4, none⟩ = some (.slice none 0 0) := (blk_cell BK267.out 4).trans rfl; have hfz96_0 := blk_frozen BK267.out 0; have hfz96_1 := blk_frozen BK267.out 1; have hfz96_2 := blk_frozen BK267.out 2; have hfz96_3 := blk_frozen BK267.out 3; have hfz96_4 := blk_frozen BK267.out 4; obtain ⟨Ao97, co97, eo97⟩ := Kd.V_slice HO_268003.out; subst eo97) | ((with_reducible refine gate_callee (f := 82) rfl ?_); refine gb_ (some 131) Tryz.func82 #[.agg #[.string x268000_7, .string x268001_22, .string x268002_34, .slice Ao97 x268003_6.length co97, .slice none 0 0], .slice (some ad268) l0.length c0, .slice A1 l1.length c1, .int .i64 (wrap64 (x10_6 + 1)), .int .i64 a2] ?_; (refine (idiomref07_keys.calls kj42 x268000_7 x268001_22 x268002_34 (fun k_ => ((w.heap.size ≤ k_) ∧ (k_ ≠ gb266 ∧ k_ ≠ gb267))) _ _ x268003_6 (fun k_ => False) _ _ ([] : List (S39)) _ _ l0 _ _ l1 (wrap64 (x10_6 + 1)) a2 t295 t296 t297 t298 t301 t304 t305 _ ?side1 ?side2 ?side3 ?side4 ?side5 ?side6 A93.out).mono ?_); (case side1 => exact HO_268003.out); (case side2 => exact Kd.V_nil _ _ _ _ _); (case side3 => repeat (first | exact (Kd.C_below HR0.out HB.out) | (with_reducible refine Kd.C_alloc ?_ _) | (with_reducible refine Kd.C_drewN ?_ _) | (with_reducible refine Kd.C_drew ?_))); (case side4 => exact HC0.out); (case side5 => repeat (first | exact (Kd.C_below HR1.out HB.out) | (with_reducible refine Kd.C_alloc ?_ _) | (with_reducible refine Kd.C_drewN ?_ _) | (with_reducible refine Kd.C_drew ?_))); (case side6 => exact HC1.out); rintro e w98 ⟨v299, v302, rfl, ho0, ho1, hb⟩; refine ⟨_, rfl, ?_⟩; replace HO_268003 := Aside0.mk (Kd.V_below (va_ HO_268003) hb); have HO300 := Aside0.mk (Kd.V_lower (Kd.V_mono (ok' := fun k_ => (w.heap.size ≤ k_) ∧ k_ ≠ gb266 ∧ k_ ≠ gb267) ho0 (fun k_ hk_ => ⟨Or.elim hk_ (fun hs_ => Or.elim hs_ (fun hs_ => hs_.1) (fun hs_ => (hs_).elim)) (fun hn_ => (Nat.le_trans (below_size (by repeat (first | (with_reducible first | exact HB.out | apply below_alloc | apply pw_below_drewN | apply below_drew1 | refine below_set ?_ GE266.out | refine below_set ?_ GE267.out) | exact HB.out))) hn_)), Or.elim hk_ (fun hs_ => Or.elim hs_ (fun hs_ => hs_.2.1) (fun hs_ => (hs_).elim)) (fun hn_ => (Kd.freshB (g := gb266) (o := .cells #[.string x267000_6, .string x267001_6, .string x267002_6, .slice none 0 0, .slice none 0 0] 25 (0, 0)) (bk_ BK266) k_ hn_)), Or.elim hk_ (fun hs_ => Or.elim hs_ (fun hs_ => hs_.2.2) (fun hs_ => (hs_).elim)) (fun hn_ => (Kd.freshB (g := gb267) (o := .cells #[.string x268000_7, .string x268001_22, .string x268002_34, .slice Ao97 x268003_6.length co97, .slice none 0 0] 25 (0, 0)) (bk_ BK267) k_ hn_))⟩)) (below_size (by repeat (first | (with_reducible first | exact HB.out | apply below_alloc | apply pw_below_drewN | apply below_drew1 | refine below_set ?_ GE266.out | refine below_set ?_ GE267.out) | exact HB.out)))); have HO303 := Aside0.mk (Kd.V_lower (Kd.V_mono (ok' := fun k_ => (w.heap.size ≤ k_) ∧ k_ ≠ gb266 ∧ k_ ≠ gb267) ho1 (fun k_ hk_ => ⟨Or.elim hk_ (fun hs_ => Or.elim hs_ (fun hs_ => hs_.1) (fun hs_ => (hs_).elim)) (fun hn_ => (Nat.le_trans (below_size (by repeat (first | (with_reducible first | exact HB.out | apply below_alloc | apply pw_below_drewN | apply below_drew1 | refine below_set ?_ GE266.out | refine below_set ?_ GE267.out) | exact HB.out))) hn_)), Or.elim hk_ (fun hs_ => Or.elim hs_ (fun hs_ => hs_.2.1) (fun hs_ => (hs_).elim)) (fun hn_ => (Kd.freshB (g := gb266) (o := .cells #[.string x267000_6, .string x267001_6, .string x267002_6, .slice none 0 0, .slice none 0 0] 25 (0, 0)) (bk_ BK266) k_ hn_)), Or.elim hk_ (fun hs_ => Or.elim hs_ (fun hs_ => hs_.2.2) (fun hs_ => (hs_).elim)) (fun hn_ => (Kd.freshB (g := gb267) (o := .cells #[.string x268000_7, .string x268001_22, .string x268002_34, .slice Ao97 x268003_6.length co97, .slice none 0 0] 25 (0, 0)) (bk_ BK267) k_ hn_))⟩)) (below_size (by repeat (first | (with_reducible first | exact HB.out | apply below_alloc | apply pw_below_drewN | apply below_drew1 | refine below_set ?_ GE266.out | refine below_set ?_ GE267.out) | exact HB.out)))); replace BK266 := Aside0.mk (blk_below (g := gb266) (o := .cells #[.string x267000_6, .string x267001_6, .string x267002_6, .slice none 0 0, .slice none 0 0] 25 (0, 0)) (bk_ BK266) hb); replace BK267 := Aside0.mk (blk_below (g := gb267) (o := .cells #[.string x268000_7, .string x268001_22, .string x268002_34, .slice Ao97 x268003_6.length co97, .slice none 0 0] 25 (0, 0)) (bk_ BK267) hb); replace HB := Aside0.mk (below_step (by repeat (first | (with_reducible first | exact HB.out | apply below_alloc | apply pw_below_drewN | apply below_drew1 | refine below_set ?_ GE266.out | refine below_set ?_ GE267.out) | exact HB.out)) hb); (try clear hb); (try clear hb2); (try clear hk); (try clear hi); (try clear ho0); (try clear ho1); have hcz99_0 : w98.cell? ⟨gb266, 0, none⟩ = some (.string x267000_6) := (blk_cell BK266.out 0).trans rfl; have hcz99_1 : w98.cell? ⟨gb266, 1, none⟩ = some (.string x267001_6) := (blk_cell BK266.out 1).trans rfl; have hcz99_2 : w98.cell? ⟨gb266, 2, none⟩ = some (.string x267002_6) := (blk_cell BK266.out 2).trans rfl; have hcz99_3 : w98.cell? ⟨gb266, 3, none⟩ = some (.slice none 0 0) := (blk_cell BK266.out 3).trans rfl; have hcz99_4 : w98.cell? ⟨gb266, 4, none⟩ = some (.slice none 0 0) := (blk_cell BK266.out 4).trans rfl; have hfz99_0 := blk_frozen BK266.out 0; have hfz99_1 := blk_frozen BK266.out 1; have hfz99_2 := blk_frozen BK266.out 2; have hfz99_3 := blk_frozen BK266.out 3; have hfz99_4 := blk_frozen BK266.out 4; obtain ⟨Ao100, co100, eo100⟩ := Kd.V_slice HO300.out; subst eo100; obtain ⟨Ao101, co101, eo101⟩ := Kd.V_slice HO303.out; subst eo101))
                      refine bodyPost_ret (results_ctt rfl _ _ gb266 25 #[.string t295, .string t296, .string t297, .slice Ao100 t298.length co100, .slice Ao101 t301.length co101] (0, 0) _ rfl (by (with_reducible repeat (first | refine blk_drewN ?_ _ | refine blk_drew ?_ | refine blk_alloc ?_ _)); refine blk_put (cs := #[.string t295, .string t296, .string t297, .slice Ao100 t298.length co100, .slice none 0 0]) ?_ 4 _ rfl; (with_reducible repeat (first | refine blk_drewN ?_ _ | refine blk_drew ?_ | refine blk_alloc ?_ _)); refine blk_put (cs := #[.string t295, .string t296, .string t297, .slice none 0 0, .slice none 0 0]) ?_ 3 _ (by first | rfl | simp); (with_reducible repeat (first | refine blk_drewN ?_ _ | refine blk_drew ?_ | refine blk_alloc ?_ _)); refine blk_put (cs := #[.string t295, .string t296, .string x267002_6, .slice none 0 0, .slice none 0 0]) ?_ 2 _ rfl; (with_reducible repeat (first | refine blk_drewN ?_ _ | refine blk_drew ?_ | refine blk_alloc ?_ _)); refine blk_put (cs := #[.string t295, .string x267001_6, .string x267002_6, .slice none 0 0, .slice none 0 0]) ?_ 1 _ rfl; (with_reducible repeat (first | refine blk_drewN ?_ _ | refine blk_drew ?_ | refine blk_alloc ?_ _)); refine blk_put (cs := #[.string x267000_6, .string x267001_6, .string x267002_6, .slice none 0 0, .slice none 0 0]) ?_ 0 _ rfl; (with_reducible repeat (first | refine blk_drewN ?_ _ | refine blk_drew ?_ | refine blk_alloc ?_ _)); exact BK266.out) Tryz.underlying25 rfl (by kernel_rfl)) rfl ?_
                      exact ⟨_, _, by first | rfl | (simp [errW_none, errW_some] <;> rfl) | (simp [*, errW_none, errW_some] <;> rfl), by (with_reducible repeat (first | apply Kd.V_alloc | apply Kd.V_drewN | apply Kd.V_drew)); exact Kd.V_mono (Kd.V_far (p := ⟨gb266, 4, none⟩) (Kd.V_far (p := ⟨gb266, 3, none⟩) (Kd.V_far (p := ⟨gb266, 2, none⟩) (Kd.V_far (p := ⟨gb266, 1, none⟩) (Kd.V_far (p := ⟨gb266, 0, none⟩) (Kd.V_mono HO300.out (fun k_ hk => (⟨hk, hk.2.1⟩ : _ ∧ k_ ≠ gb266))) (fun _ hk => hk.2) (.string t295)) (fun _ hk => hk.2) (.string t296)) (fun _ hk => hk.2) (.string t297)) (fun _ hk => hk.2) (.slice Ao100 t298.length co100)) (fun _ hk => hk.2) (.slice Ao101 t301.length co101)) (fun _ hk => hk.1.1), by (with_reducible repeat (first | apply Kd.V_alloc | apply Kd.V_drewN | apply Kd.V_drew)); exact Kd.V_mono (Kd.V_far (p := ⟨gb266, 4, none⟩) (Kd.V_far (p := ⟨gb266, 3, none⟩) (Kd.V_far (p := ⟨gb266, 2, none⟩) (Kd.V_far (p := ⟨gb266, 1, none⟩) (Kd.V_far (p := ⟨gb266, 0, none⟩) (Kd.V_mono HO303.out (fun k_ hk => (⟨hk, hk.2.1⟩ : _ ∧ k_ ≠ gb266))) (fun _ hk => hk.2) (.string t295)) (fun _ hk => hk.2) (.string t296)) (fun _ hk => hk.2) (.string t297)) (fun _ hk => hk.2) (.slice Ao100 t298.length co100)) (fun _ hk => hk.2) (.slice Ao101 t301.length co101)) (fun _ hk => hk.1.1), by repeat (first | (with_reducible first | exact HB.out | apply below_alloc | apply pw_below_drewN | apply below_drew1 | refine below_set ?_ GE266.out | refine below_set ?_ GE267.out) | exact HB.out)⟩
                     ·rw [if_neg c92] at H
                      have c92b0 : (t293.toList == ([117] : List UInt8)) = false := beq_eq_false_iff_ne.mpr c92
                      have c92b1 : (t293.toList != ([117] : List UInt8)) = true := bne_iff_ne.mpr c92
                      by_cases c102 : x10_6 < (l1.length : Int)
                      ·rw [if_pos c102] at H
                       have c102b0 : decide (x10_6 < (l1.length : Int)) = true := decide_eq_true c102
                       clear c102
                       simp only [Option.some.injEq, Prod.mk.injEq] at H
                       obtain ⟨rfl, rfl, rfl, rfl, rfl, rfl, rfl⟩ := H
                       have p292 : 0 ≤ (x10_6 : Int) := of_decide_eq_true (by first | (with_reducible assumption) | assumption)
                       have q292 : x10_6 < (l0.length : Int) := of_decide_eq_true (by first | (with_reducible assumption) | assumption)
                       obtain ⟨ad292, e292, hx292_0⟩ := Kd.at_string HR0.out x10_6 p292 q292
                       obtain rfl : ad268 = ad292 := (by injection e292)
                       replace hx292_0 := (HB.out.cell (World.block_lt_of_cell? w _ hx292_0)).trans hx292_0
                       replace p292 := eq_true p292
                       replace q292 := eq_true q292
                       try go_wp2_with (first | ((with_reducible refine gate_callee (f := 29) rfl ?_); refine gb_ (some 118) Tryz.func29 #[.string (rdOf ByteArray.empty l0 x10_6)] ?_; (with_reducible refine (idiomref07_Small.calls (rdOf ByteArray.empty l0 x10_6) t293 _ A91.out).mono ?_); rintro e w103 ⟨rfl, hb⟩; refine ⟨_, rfl, ?_⟩; replace HO_268003 := Aside0.mk (Kd.V_below (va_ HO_268003) hb); replace BK266 := Aside0.mk (blk_below (g := gb266) (o := .cells #[.string x267000_6, .string x267001_6, .string x267002_6, .slice none 0 0, .slice none 0 0] 25 (0, 0)) (bk_ BK266) hb); replace BK267 := Aside0.mk (blk_below (g := gb267) (o := .cells #[.string x268000_7, .string x268001_22, .string x268002_34, u268003, .slice none 0 0] 25 (0, 0)) (bk_ BK267) hb); replace HB := Aside0.mk (below_step (by repeat (first | (with_reducible first | exact HB.out | apply below_alloc | apply pw_below_drewN | apply below_drew1 | refine below_set ?_ GE266.out | refine below_set ?_ GE267.out) | exact HB.out)) hb); (try clear hb); (try clear hb2); (try clear hk); (try clear hi)))
                       replace HO_268003 := Aside0.mk (Kd.V_drew HO_268003.out)
                       replace BK266 := Aside0.mk (blk_drew BK266.out)
                       replace BK267 := Aside0.mk (blk_drew BK267.out)
                       replace HB := Aside0.mk (below_drew1 HB.out)
                       have p294 : 0 ≤ (x10_6 : Int) := of_decide_eq_true (by first | (with_reducible assumption) | assumption)
                       have q294 : x10_6 < (l1.length : Int) := of_decide_eq_true (by first | (with_reducible assumption) | assumption)
                       obtain ⟨ad294, e294, hx294_0⟩ := Kd.at_int HR1.out x10_6 p294 q294
                       have hw294_0 := hx294_0
                       cases e294
                       replace hx294_0 := (HB.out.cell (World.block_lt_of_cell? w _ hx294_0)).trans hx294_0
                       replace p294 := eq_true p294
                       replace q294 := eq_true q294
                       obtain ⟨Ao108, co108, eo108⟩ := Kd.V_slice HO_268003.out
                       (first | subst eo108 | (injection eo108 with f1_ f2_ f3_; have f4_ := f1_.symm; have f5_ := f3_.symm; clear f1_ f2_ f3_; subst f4_; subst f5_))
                       refine start_ (n := 8) (S := fun w' => w'.cell? ⟨gb267, 0, none⟩ = some (.string x268000_7) ∧ w'.cell? ⟨gb267, 1, none⟩ = some (.string x268001_22) ∧ w'.cell? ⟨gb267, 2, none⟩ = some (.string x268002_34) ∧ w'.cell? ⟨gb267, 3, none⟩ = some (.slice Ao108 x268003_6.length co108) ∧ w'.cell? ⟨gb267, 4, none⟩ = some (.slice none 0 0) ∧ w'.cell? (ad294.add (x10_6).toNat) = some (.int .i64 (rd l1 x10_6))) (ds := []) (bmp 8 0) (by kernel_rfl) rfl rfl ⟨(blk_cell BK267.out 0).trans rfl, (blk_cell BK267.out 1).trans rfl, (blk_cell BK267.out 2).trans rfl, (blk_cell BK267.out 3).trans rfl, (blk_cell BK267.out 4).trans rfl, ((HB.out.cell (World.block_lt_of_cell? w _ hw294_0)).trans hw294_0)⟩ (fun hHeld => ?_); refine with_tabW idiomref07_read.tab23 idiomref07_read.bits23 (fun HT_ HW_ => ?_)
                       generalize w103.drew = w104 at HO_268003 BK266 BK267 HB hx294_0 hHeld ⊢
                       refine pure_ (i := 1) (N := some 121) (v := ?_) (a' := ?_) (bm 8 2) rfl rfl (any_of HT_.out (by kernel_rfl)) (fun _ _ _ h => h) (Or.inl ⟨by rfl, ?_⟩) ?_ ?_
                       rotate_left
                       ·intro w'
                        go_simp
                        with_reducible rfl
                       rotate_left
                       ·simp only [Act.put, List.setIfInBounds_toArray, List.set_cons_zero, List.set_cons_succ, i64_w, i32_w]
                        rfl
                       refine pure_ (i := 2) (N := some 122) (v := ?_) (a' := ?_) (bm 8 6) rfl rfl (any_of HT_.out (by kernel_rfl)) (fun _ _ _ h => h) (Or.inl ⟨by rfl, ?_⟩) ?_ ?_
                       rotate_left
                       ·intro w'
                        go_simp
                        with_reducible rfl
                       rotate_left
                       ·simp only [Act.put, List.setIfInBounds_toArray, List.set_cons_zero, List.set_cons_succ, i64_w, i32_w]
                        rfl
                       refine pure_ (i := 3) (N := some 123) (v := ?_) (a' := ?_) (bm 8 14) rfl rfl (any_of HT_.out (by kernel_rfl)) (fun _ _ _ h => h) (Or.inl ⟨by rfl, ?_⟩) ?_ ?_
                       rotate_left
                       ·intro w'
                        go_simp
                        with_reducible rfl
                       rotate_left
                       ·simp only [Act.put, List.setIfInBounds_toArray, List.set_cons_zero, List.set_cons_succ, i64_w, i32_w]
                        rfl
                       refine take_ (i := 0) (N := some 120) (v := ?_) (a' := ?_) (bmp 8 4) rfl rfl (take_ofW HT_.out HW_.out (by kernel_rfl)) (fun _ _ _ h => h) (Or.inl ⟨by rfl, ?_⟩) hHeld ?_ ?_
                       rotate_left
                       ·rintro w' ⟨s0, s1, s2, s3, s4, s5⟩
                        go_simp
                        with_reducible rfl
                       rotate_left
                       ·simp only [Act.put, List.setIfInBounds_toArray, List.set_cons_zero, List.set_cons_succ, i64_w, i32_w]
                        rfl
                       refine tk_ HT_ HW_ hHeld ?_
                       refine one_ (i := 5) (N := none) (bmp 8 6) rfl rfl (one_of HT_.out (by kernel_rfl)) (by decide) (fun K hK => ?_)
                       have hs105 : w104.cell? ⟨gb266, 0, none⟩ = some (.string x267000_6) := (blk_cell BK266.out 0).trans rfl
                       have hfs105 := blk_frozen BK266.out 0
                       have hns105_1 := NB267_266.out
                       have hms105_1 := NB266_267.out
                       have hs106 : w104.cell? ⟨gb266, 1, none⟩ = some (.string x267001_6) := (blk_cell BK266.out 1).trans rfl
                       have hfs106 := blk_frozen BK266.out 1
                       have hns106_1 := NB267_266.out
                       have hms106_1 := NB266_267.out
                       have hs107 : w104.cell? ⟨gb266, 2, none⟩ = some (.string x267002_6) := (blk_cell BK266.out 2).trans rfl
                       have hfs107 := blk_frozen BK266.out 2
                       have hns107_1 := NB267_266.out
                       have hms107_1 := NB266_267.out
                       have hs109 : w104.cell? ⟨gb266, 3, none⟩ = some (.slice none 0 0) := (blk_cell BK266.out 3).trans rfl
                       have hfs109 := blk_frozen BK266.out 3
                       have hns109_1 := NB267_266.out
                       have hms109_1 := NB266_267.out
                       have hs110 : w104.cell? ⟨gb266, 4, none⟩ = some (.slice none 0 0) := (blk_cell BK266.out 4).trans rfl
                       have hfs110 := blk_frozen BK266.out 4
                       have hns110_1 := NB267_266.out
                       have hms110_1 := NB266_267.out
                       refine skip_ (w1 := ?_) (by rfl) rfl ?_ ?_
                       rotate_left
                       ·go_simp
                        rfl
                       refine hK.out _ _ ⟨((cell_far (p := ⟨gb266, _, none⟩) NB267_266.out _).trans (((cell_far (p := ⟨gb266, _, none⟩) NB267_266.out _).trans (((cell_far (p := ⟨gb266, _, none⟩) NB267_266.out _).trans (((cell_far (p := ⟨gb266, _, none⟩) NB267_266.out _).trans (((cell_far (p := ⟨gb266, _, none⟩) NB267_266.out _).trans (hHeld.1)))))))))), ((cell_far (p := ⟨gb266, _, none⟩) NB267_266.out _).trans (((cell_far (p := ⟨gb266, _, none⟩) NB267_266.out _).trans (((cell_far (p := ⟨gb266, _, none⟩) NB267_266.out _).trans (((cell_far (p := ⟨gb266, _, none⟩) NB267_266.out _).trans (((cell_far (p := ⟨gb266, _, none⟩) NB267_266.out _).trans (hHeld.2.1)))))))))), ((cell_far (p := ⟨gb266, _, none⟩) NB267_266.out _).trans (((cell_far (p := ⟨gb266, _, none⟩) NB267_266.out _).trans (((cell_far (p := ⟨gb266, _, none⟩) NB267_266.out _).trans (((cell_far (p := ⟨gb266, _, none⟩) NB267_266.out _).trans (((cell_far (p := ⟨gb266, _, none⟩) NB267_266.out _).trans (hHeld.2.2.1)))))))))), ((cell_far (p := ⟨gb266, _, none⟩) NB267_266.out _).trans (((cell_far (p := ⟨gb266, _, none⟩) NB267_266.out _).trans (((cell_far (p := ⟨gb266, _, none⟩) NB267_266.out _).trans (((cell_far (p := ⟨gb266, _, none⟩) NB267_266.out _).trans (((cell_far (p := ⟨gb266, _, none⟩) NB267_266.out _).trans (hHeld.2.2.2.1)))))))))), ((cell_far (p := ⟨gb266, _, none⟩) NB267_266.out _).trans (((cell_far (p := ⟨gb266, _, none⟩) NB267_266.out _).trans (((cell_far (p := ⟨gb266, _, none⟩) NB267_266.out _).trans (((cell_far (p := ⟨gb266, _, none⟩) NB267_266.out _).trans (((cell_far (p := ⟨gb266, _, none⟩) NB267_266.out _).trans (hHeld.2.2.2.2.1)))))))))), ((cell_far (p := ⟨gb266, _, none⟩) (by first | exact Nat.ne_of_lt (Nat.lt_of_lt_of_le (by have := World.block_lt_of_cell? _ _ hw294_0; first | rwa [add_block] at this | exact this) GW266.out) | (rw [add_block]; exact Nat.ne_of_lt (Nat.lt_of_lt_of_le (by have := World.block_lt_of_cell? _ _ hw294_0; first | rwa [add_block] at this | exact this) GW266.out)) | (show (Addr.add _ _).block ≠ _; rw [add_block]; exact Nat.ne_of_lt (Nat.lt_of_lt_of_le (by have := World.block_lt_of_cell? _ _ hw294_0; first | rwa [add_block] at this | exact this) GW266.out)) | (dsimp only; exact Nat.ne_of_lt (Nat.lt_of_lt_of_le (by have := World.block_lt_of_cell? _ _ hw294_0; first | rwa [add_block] at this | exact this) GW266.out))) _).trans (((cell_far (p := ⟨gb266, _, none⟩) (by first | exact Nat.ne_of_lt (Nat.lt_of_lt_of_le (by have := World.block_lt_of_cell? _ _ hw294_0; first | rwa [add_block] at this | exact this) GW266.out) | (rw [add_block]; exact Nat.ne_of_lt (Nat.lt_of_lt_of_le (by have := World.block_lt_of_cell? _ _ hw294_0; first | rwa [add_block] at this | exact this) GW266.out)) | (show (Addr.add _ _).block ≠ _; rw [add_block]; exact Nat.ne_of_lt (Nat.lt_of_lt_of_le (by have := World.block_lt_of_cell? _ _ hw294_0; first | rwa [add_block] at this | exact this) GW266.out)) | (dsimp only; exact Nat.ne_of_lt (Nat.lt_of_lt_of_le (by have := World.block_lt_of_cell? _ _ hw294_0; first | rwa [add_block] at this | exact this) GW266.out))) _).trans (((cell_far (p := ⟨gb266, _, none⟩) (by first | exact Nat.ne_of_lt (Nat.lt_of_lt_of_le (by have := World.block_lt_of_cell? _ _ hw294_0; first | rwa [add_block] at this | exact this) GW266.out) | (rw [add_block]; exact Nat.ne_of_lt (Nat.lt_of_lt_of_le (by have := World.block_lt_of_cell? _ _ hw294_0; first | rwa [add_block] at this | exact this) GW266.out)) | (show (Addr.add _ _).block ≠ _; rw [add_block]; exact Nat.ne_of_lt (Nat.lt_of_lt_of_le (by have := World.block_lt_of_cell? _ _ hw294_0; first | rwa [add_block] at this | exact this) GW266.out)) | (dsimp only; exact Nat.ne_of_lt (Nat.lt_of_lt_of_le (by have := World.block_lt_of_cell? _ _ hw294_0; first | rwa [add_block] at this | exact this) GW266.out))) _).trans (((cell_far (p := ⟨gb266, _, none⟩) (by first | exact Nat.ne_of_lt (Nat.lt_of_lt_of_le (by have := World.block_lt_of_cell? _ _ hw294_0; first | rwa [add_block] at this | exact this) GW266.out) | (rw [add_block]; exact Nat.ne_of_lt (Nat.lt_of_lt_of_le (by have := World.block_lt_of_cell? _ _ hw294_0; first | rwa [add_block] at this | exact this) GW266.out)) | (show (Addr.add _ _).block ≠ _; rw [add_block]; exact Nat.ne_of_lt (Nat.lt_of_lt_of_le (by have := World.block_lt_of_cell? _ _ hw294_0; first | rwa [add_block] at this | exact this) GW266.out)) | (dsimp only; exact Nat.ne_of_lt (Nat.lt_of_lt_of_le (by have := World.block_lt_of_cell? _ _ hw294_0; first | rwa [add_block] at this | exact this) GW266.out))) _).trans (((cell_far (p := ⟨gb266, _, none⟩) (by first | exact Nat.ne_of_lt (Nat.lt_of_lt_of_le (by have := World.block_lt_of_cell? _ _ hw294_0; first | rwa [add_block] at this | exact this) GW266.out) | (rw [add_block]; exact Nat.ne_of_lt (Nat.lt_of_lt_of_le (by have := World.block_lt_of_cell? _ _ hw294_0; first | rwa [add_block] at this | exact this) GW266.out)) | (show (Addr.add _ _).block ≠ _; rw [add_block]; exact Nat.ne_of_lt (Nat.lt_of_lt_of_le (by have := World.block_lt_of_cell? _ _ hw294_0; first | rwa [add_block] at this | exact this) GW266.out)) | (dsimp only; exact Nat.ne_of_lt (Nat.lt_of_lt_of_le (by have := World.block_lt_of_cell? _ _ hw294_0; first | rwa [add_block] at this | exact this) GW266.out))) _).trans (hHeld.2.2.2.2.2))))))))))⟩ (fun hHeld => ?_)
                       clear hK K
                       iterate 2 (refine pu_ HT_ ?_)
                       refine done_ (done_of HT_.out (by kernel_rfl)) ?_
                       try go_wp2
                       refine bodyPost_ret (results_ctt rfl _ _ gb266 25 #[.string x268000_7, .string x268001_22, .string x268002_34, .slice Ao108 x268003_6.length co108, .slice none 0 0] (0, 0) _ rfl (by (with_reducible repeat (first | refine blk_drewN ?_ _ | refine blk_drew ?_ | refine blk_alloc ?_ _)); refine blk_put (cs := #[.string x268000_7, .string x268001_22, .string x268002_34, .slice Ao108 x268003_6.length co108, .slice none 0 0]) ?_ 4 _ rfl; (with_reducible repeat (first | refine blk_drewN ?_ _ | refine blk_drew ?_ | refine blk_alloc ?_ _)); refine blk_put (cs := #[.string x268000_7, .string x268001_22, .string x268002_34, .slice none 0 0, .slice none 0 0]) ?_ 3 _ (by first | rfl | simp); (with_reducible repeat (first | refine blk_drewN ?_ _ | refine blk_drew ?_ | refine blk_alloc ?_ _)); refine blk_put (cs := #[.string x268000_7, .string x268001_22, .string x267002_6, .slice none 0 0, .slice none 0 0]) ?_ 2 _ rfl; (with_reducible repeat (first | refine blk_drewN ?_ _ | refine blk_drew ?_ | refine blk_alloc ?_ _)); refine blk_put (cs := #[.string x268000_7, .string x267001_6, .string x267002_6, .slice none 0 0, .slice none 0 0]) ?_ 1 _ rfl; (with_reducible repeat (first | refine blk_drewN ?_ _ | refine blk_drew ?_ | refine blk_alloc ?_ _)); refine blk_put (cs := #[.string x267000_6, .string x267001_6, .string x267002_6, .slice none 0 0, .slice none 0 0]) ?_ 0 _ rfl; (with_reducible repeat (first | refine blk_drewN ?_ _ | refine blk_drew ?_ | refine blk_alloc ?_ _)); exact BK266.out) Tryz.underlying25 rfl (by kernel_rfl)) rfl ?_
                       exact ⟨_, _, by first | rfl | (simp [errW_none, errW_some] <;> rfl) | (simp [*, errW_none, errW_some] <;> rfl), by (with_reducible repeat (first | apply Kd.V_alloc | apply Kd.V_drewN | apply Kd.V_drew)); exact Kd.V_mono (Kd.V_far (p := ⟨gb266, 4, none⟩) (Kd.V_far (p := ⟨gb266, 3, none⟩) (Kd.V_far (p := ⟨gb266, 2, none⟩) (Kd.V_far (p := ⟨gb266, 1, none⟩) (Kd.V_far (p := ⟨gb266, 0, none⟩) (Kd.V_mono HO_268003.out (fun k_ hk => (⟨hk, hk.2.1⟩ : _ ∧ k_ ≠ gb266))) (fun _ hk => hk.2) (.string x268000_7)) (fun _ hk => hk.2) (.string x268001_22)) (fun _ hk => hk.2) (.string x268002_34)) (fun _ hk => hk.2) (.slice Ao108 x268003_6.length co108)) (fun _ hk => hk.2) (.slice none 0 0)) (fun _ hk => hk.1.1), Kd.R_V (base := w.heap.size) (by first | exact Kd.R_nil _ _ _ _ _ | exact Kd.N_nil _ _ _ _ _ | exact Kd.V_nil _ _ _ _ _ | exact Kd.Q_nil _ _ _ _ _ | exact Kd.S_nil _ _ _ _ _), by repeat (first | (with_reducible first | exact HB.out | apply below_alloc | apply pw_below_drewN | apply below_drew1 | refine below_set ?_ GE266.out | refine below_set ?_ GE267.out) | exact HB.out)⟩
                      ·rw [if_neg c102] at H
                       exact absurd H (by simp)
                    ·rw [if_neg c90] at H
                     exact absurd H (by simp)
                   ·rw [if_neg c89] at H
                    exact absurd H (by simp)
  ·replace c6 := Bool.eq_false_iff.mpr c6
   subst c6
   have H1 : (some ((⟨#[]⟩ : ByteArray), (⟨#[]⟩ : ByteArray), (⟨#[]⟩ : ByteArray), ([] : List ByteArray), ([] : List (S39)), 0, 70)) = some (r1, r2, r3, r4, r5, r6, r7) := by rw [if_neg (show ¬ (false = true) by decide)] at H; exact H
   clear H
   have H := H1
   clear H1
   simp only [Option.some.injEq, Prod.mk.injEq] at H
   obtain ⟨rfl, rfl, rfl, rfl, rfl, rfl, rfl⟩ := H
   go_enter Tryz.func52, Tryz.ntmps52
   go_wp2_with (first | ((with_reducible refine gate_dst (N := 6) rfl ?_); refine box_event ?hg (N := 6) ?hd (cs := #[.string (⟨#[]⟩ : ByteArray), .string (⟨#[]⟩ : ByteArray), .string (⟨#[]⟩ : ByteArray), .slice none 0 0, .slice none 0 0]) (t := 25) ?hr ?_; (case hd => rfl); (case hg => rfl); (case hr => first | (go_simp; done) | (go_simp; rfl)); intro gb266 hg w111 hbox hb; have BK266 := Aside0.mk (hbox); have GW266 := Aside0.mk ((by rw [hg]; exact hz_ : w.heap.size ≤ gb266)); have GE266 := Aside0.mk ((by rw [hg]; exact hz_ : w.heap.size ≤ gb266)); replace HB := Aside0.mk (below_step hb_ hb); clear hb hbox hg) | ((with_reducible refine gate_dst (N := 9) rfl ?_); refine box_event ?hg (N := 9) ?hd (cs := #[.string (⟨#[]⟩ : ByteArray), .string (⟨#[]⟩ : ByteArray), .string (⟨#[]⟩ : ByteArray), .slice none 0 0, .slice none 0 0]) (t := 25) ?hr ?_; (case hd => rfl); (case hg => rfl); (case hr => first | (go_simp; done) | (go_simp; rfl)); intro gb267 hg w112 hbox hb; have BK267 := Aside0.mk (hbox); have GW267 := Aside0.mk ((by rw [hg]; exact (below_size (by repeat (first | (with_reducible first | exact HB.out | apply below_alloc | apply pw_below_drewN | apply below_drew1 | refine below_set ?_ GE266.out) | exact HB.out))) : w.heap.size ≤ gb267)); have GE267 := Aside0.mk ((by rw [hg]; exact (below_size (by repeat (first | (with_reducible first | exact HB.out | apply below_alloc | apply pw_below_drewN | apply below_drew1 | refine below_set ?_ GE266.out) | exact HB.out))) : w.heap.size ≤ gb267)); replace HB := Aside0.mk (below_step (by repeat (first | (with_reducible first | exact HB.out | apply below_alloc | apply pw_below_drewN | apply below_drew1 | refine below_set ?_ GE266.out) | exact HB.out)) hb); have NB266_267 := Aside0.mk ((by rw [hg]; exact Nat.ne_of_lt (blk_lt (g := gb266) (o := .cells #[.string (⟨#[]⟩ : ByteArray), .string (⟨#[]⟩ : ByteArray), .string (⟨#[]⟩ : ByteArray), .slice none 0 0, .slice none 0 0] 25 (0, 0)) (bk_ BK266)) : gb266 ≠ gb267)); have NB267_266 := Aside0.mk ((by rw [hg]; exact Nat.ne_of_gt (blk_lt (g := gb266) (o := .cells #[.string (⟨#[]⟩ : ByteArray), .string (⟨#[]⟩ : ByteArray), .string (⟨#[]⟩ : ByteArray), .slice none 0 0, .slice none 0 0] 25 (0, 0)) (bk_ BK266)) : gb267 ≠ gb266)); replace BK266 := Aside0.mk (blk_below (g := gb266) (o := .cells #[.string (⟨#[]⟩ : ByteArray), .string (⟨#[]⟩ : ByteArray), .string (⟨#[]⟩ : ByteArray), .slice none 0 0, .slice none 0 0] 25 (0, 0)) (bk_ BK266) hb); clear hb hbox hg; have hnb113 := NB267_266.out; have hnc113 := NB266_267.out; have hcz114_0 : w112.cell? ⟨gb267, 0, none⟩ = some (.string (⟨#[]⟩ : ByteArray)) := (blk_cell BK267.out 0).trans rfl; have hcz114_1 : w112.cell? ⟨gb267, 1, none⟩ = some (.string (⟨#[]⟩ : ByteArray)) := (blk_cell BK267.out 1).trans rfl; have hcz114_2 : w112.cell? ⟨gb267, 2, none⟩ = some (.string (⟨#[]⟩ : ByteArray)) := (blk_cell BK267.out 2).trans rfl; have hcz114_3 : w112.cell? ⟨gb267, 3, none⟩ = some (.slice none 0 0) := (blk_cell BK267.out 3).trans rfl; have hcz114_4 : w112.cell? ⟨gb267, 4, none⟩ = some (.slice none 0 0) := (blk_cell BK267.out 4).trans rfl; have hfz114_0 := blk_frozen BK267.out 0; have hfz114_1 := blk_frozen BK267.out 1; have hfz114_2 := blk_frozen BK267.out 2; have hfz114_3 := blk_frozen BK267.out 3; have hfz114_4 := blk_frozen BK267.out 4; have p268 : 0 ≤ (0 : Int) := (by omega); have q268 : 0 < (l0.length : Int) := of_decide_eq_true (by first | (with_reducible assumption) | assumption); obtain ⟨ad268, e268, hx268_0⟩ := Kd.at_string HR0.out 0 p268 q268; cases e268; have qi268 : (0 < l0.length) = True := eq_true (by omega); (try rw [show ((0 : Int)).toNat = 0 from rfl] at hx268_0); (try rw [Addr.add_zero'] at hx268_0); have hn268_0 : ad268.block ≠ gb267 := Nat.ne_of_lt (Nat.lt_of_lt_of_le (by have := World.block_lt_of_cell? _ _ hx268_0; first | rwa [add_block] at this | exact this) GW267.out); have hn268_1 : ad268.block ≠ gb267 := Nat.ne_of_lt (Nat.lt_of_lt_of_le (by have := World.block_lt_of_cell? _ _ hx268_0; first | rwa [add_block] at this | exact this) GW267.out); have hn268_2 : ad268.block ≠ gb267 := Nat.ne_of_lt (Nat.lt_of_lt_of_le (by have := World.block_lt_of_cell? _ _ hx268_0; first | rwa [add_block] at this | exact this) GW267.out); have hn268_3 : ad268.block ≠ gb267 := Nat.ne_of_lt (Nat.lt_of_lt_of_le (by have := World.block_lt_of_cell? _ _ hx268_0; first | rwa [add_block] at this | exact this) GW267.out); have hn268_4 : ad268.block ≠ gb267 := Nat.ne_of_lt (Nat.lt_of_lt_of_le (by have := World.block_lt_of_cell? _ _ hx268_0; first | rwa [add_block] at this | exact this) GW267.out); replace hx268_0 := (HB.out.cell (World.block_lt_of_cell? w _ hx268_0)).trans hx268_0; replace hx268_0 := (cell_far (p := ⟨gb267, 0, none⟩) (by first | (rw [add_block]; exact hn268_0) | (show (Addr.add _ _).block ≠ _; rw [add_block]; exact hn268_0) | exact hn268_0) (.string (⟨#[]⟩ : ByteArray))).trans hx268_0; replace hx268_0 := (cell_far (p := ⟨gb267, 1, none⟩) (by first | (rw [add_block]; exact hn268_1) | (show (Addr.add _ _).block ≠ _; rw [add_block]; exact hn268_1) | exact hn268_1) (.string (⟨#[]⟩ : ByteArray))).trans hx268_0; replace hx268_0 := (cell_far (p := ⟨gb267, 2, none⟩) (by first | (rw [add_block]; exact hn268_2) | (show (Addr.add _ _).block ≠ _; rw [add_block]; exact hn268_2) | exact hn268_2) (.string (⟨#[]⟩ : ByteArray))).trans hx268_0; replace hx268_0 := (cell_far (p := ⟨gb267, 3, none⟩) (by first | (rw [add_block]; exact hn268_3) | (show (Addr.add _ _).block ≠ _; rw [add_block]; exact hn268_3) | exact hn268_3) (.slice none 0 0)).trans hx268_0; replace hx268_0 := (cell_far (p := ⟨gb267, 4, none⟩) (by first | (rw [add_block]; exact hn268_4) | (show (Addr.add _ _).block ≠ _; rw [add_block]; exact hn268_4) | exact hn268_4) (.slice none 0 0)).trans hx268_0; clear hn268_0; clear hn268_1; clear hn268_2; clear hn268_3; clear hn268_4; replace p268 := eq_true p268; replace q268 := eq_true q268) | ((with_reducible refine gate_callee (f := 28) rfl ?_); refine gb_ (some 17) Tryz.func28 #[.string (rdOf ByteArray.empty l0 0)] ?_; (with_reducible refine (idiomref07_lang.calls k (rdOf ByteArray.empty l0 0) false _ A5.out).mono ?_); rintro e w' ⟨rfl, ⟨nd, rfl⟩⟩; refine ⟨_, rfl, ?_⟩; have hcz115_0 : w112.cell? ⟨gb266, 0, none⟩ = some (.string (⟨#[]⟩ : ByteArray)) := (blk_cell BK266.out 0).trans rfl; have hcz115_1 : w112.cell? ⟨gb266, 1, none⟩ = some (.string (⟨#[]⟩ : ByteArray)) := (blk_cell BK266.out 1).trans rfl; have hcz115_2 : w112.cell? ⟨gb266, 2, none⟩ = some (.string (⟨#[]⟩ : ByteArray)) := (blk_cell BK266.out 2).trans rfl; have hcz115_3 : w112.cell? ⟨gb266, 3, none⟩ = some (.slice none 0 0) := (blk_cell BK266.out 3).trans rfl; have hcz115_4 : w112.cell? ⟨gb266, 4, none⟩ = some (.slice none 0 0) := (blk_cell BK266.out 4).trans rfl; have hfz115_0 := blk_frozen BK266.out 0; have hfz115_1 := blk_frozen BK266.out 1; have hfz115_2 := blk_frozen BK266.out 2; have hfz115_3 := blk_frozen BK266.out 3; have hfz115_4 := blk_frozen BK266.out 4))
   refine bodyPost_ret (results_ctt rfl _ _ gb266 25 #[.string (⟨#[]⟩ : ByteArray), .string (⟨#[]⟩ : ByteArray), .string (⟨#[]⟩ : ByteArray), .slice none 0 0, .slice none 0 0] (0, 0) _ rfl (by (with_reducible repeat (first | refine blk_drewN ?_ _ | refine blk_drew ?_ | refine blk_alloc ?_ _)); refine blk_put (cs := #[.string (⟨#[]⟩ : ByteArray), .string (⟨#[]⟩ : ByteArray), .string (⟨#[]⟩ : ByteArray), .slice none 0 0, .slice none 0 0]) ?_ 4 _ rfl; (with_reducible repeat (first | refine blk_drewN ?_ _ | refine blk_drew ?_ | refine blk_alloc ?_ _)); refine blk_put (cs := #[.string (⟨#[]⟩ : ByteArray), .string (⟨#[]⟩ : ByteArray), .string (⟨#[]⟩ : ByteArray), .slice none 0 0, .slice none 0 0]) ?_ 3 _ (by first | rfl | simp); (with_reducible repeat (first | refine blk_drewN ?_ _ | refine blk_drew ?_ | refine blk_alloc ?_ _)); refine blk_put (cs := #[.string (⟨#[]⟩ : ByteArray), .string (⟨#[]⟩ : ByteArray), .string (⟨#[]⟩ : ByteArray), .slice none 0 0, .slice none 0 0]) ?_ 2 _ rfl; (with_reducible repeat (first | refine blk_drewN ?_ _ | refine blk_drew ?_ | refine blk_alloc ?_ _)); refine blk_put (cs := #[.string (⟨#[]⟩ : ByteArray), .string (⟨#[]⟩ : ByteArray), .string (⟨#[]⟩ : ByteArray), .slice none 0 0, .slice none 0 0]) ?_ 1 _ rfl; (with_reducible repeat (first | refine blk_drewN ?_ _ | refine blk_drew ?_ | refine blk_alloc ?_ _)); refine blk_put (cs := #[.string (⟨#[]⟩ : ByteArray), .string (⟨#[]⟩ : ByteArray), .string (⟨#[]⟩ : ByteArray), .slice none 0 0, .slice none 0 0]) ?_ 0 _ rfl; (with_reducible repeat (first | refine blk_drewN ?_ _ | refine blk_drew ?_ | refine blk_alloc ?_ _)); refine blk_far ?_ NB266_267.out _; (with_reducible repeat (first | refine blk_drewN ?_ _ | refine blk_drew ?_ | refine blk_alloc ?_ _)); refine blk_far ?_ NB266_267.out _; (with_reducible repeat (first | refine blk_drewN ?_ _ | refine blk_drew ?_ | refine blk_alloc ?_ _)); refine blk_far ?_ NB266_267.out _; (with_reducible repeat (first | refine blk_drewN ?_ _ | refine blk_drew ?_ | refine blk_alloc ?_ _)); refine blk_far ?_ NB266_267.out _; (with_reducible repeat (first | refine blk_drewN ?_ _ | refine blk_drew ?_ | refine blk_alloc ?_ _)); refine blk_far ?_ NB266_267.out _; (with_reducible repeat (first | refine blk_drewN ?_ _ | refine blk_drew ?_ | refine blk_alloc ?_ _)); exact BK266.out) Tryz.underlying25 rfl (by kernel_rfl)) rfl ?_
   exact ⟨_, _, by first | rfl | (simp [errW_none, errW_some] <;> rfl) | (simp [*, errW_none, errW_some] <;> rfl), Kd.R_V (base := w.heap.size) (by first | exact Kd.R_nil _ _ _ _ _ | exact Kd.N_nil _ _ _ _ _ | exact Kd.V_nil _ _ _ _ _ | exact Kd.Q_nil _ _ _ _ _ | exact Kd.S_nil _ _ _ _ _), Kd.R_V (base := w.heap.size) (by first | exact Kd.R_nil _ _ _ _ _ | exact Kd.N_nil _ _ _ _ _ | exact Kd.V_nil _ _ _ _ _ | exact Kd.Q_nil _ _ _ _ _ | exact Kd.S_nil _ _ _ _ _), by repeat (first | (with_reducible first | exact HB.out | apply below_alloc | apply pw_below_drewN | apply below_drew1 | refine below_set ?_ GE266.out | refine below_set ?_ GE267.out) | exact HB.out)⟩
 ·rw [if_neg c4] at H
  exact absurd H (by simp)
end Go.Proofs.YtphjhbppjakocaaGreatDoor.PTag
