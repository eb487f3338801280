/- Printed by a program (the kit's print.py with changes of this session) out of Lean's own print of the program: functions of the program as plain Lean functions, and that each call comes to what they say; conditions: those that each theorem states. Not trusted: Lean checks it. -/
import Derived.Test.YtphjhbppjakocaaGreatDoorPU0
import Derived.Test.YtphjhbppjakocaaGreatDoorBrief
import Derived.Test.YtphjhbppjakocaaGreatDoorTagA
import Derived.Test.YtphjhbppjakocaaGreatDoorPU12
namespace Go.Proofs.YtphjhbppjakocaaGreatDoor.PTag
open Go.RowKit Go.Proofs.YtphjhbppjakocaaGreatDoorW.PrintWords Go.Proofs.YtphjhbppjakocaaGreatDoorW.PrintLast Go.Proofs.YtphjhbppjakocaaGreatDoorW.PrintMore
attribute [local go_sem] max2_int min2_int max_two min_two max_three min_three max_four min_four
set_option linter.unusedVariables false
set_option linter.unusedSimpArgs false
attribute [local go_sem] setCell_drewN_ cell_put_twice_ gtr_less_
mutual
def tag_Check.j0 : Nat → Bool → ByteArray → ByteArray → ByteArray → List ByteArray → List (S39) → Option (Int)
 | 0, _, _, _, _, _, _ => none
 | k + 1, x30, x177000, x177001, x177002, x177003, x177004 => if x30 = true then (some 70) else (if x177001.toList = ([] : List UInt8) then (tag_Check.j1 k false x177000 x177001 x177002 x177003 x177004) else ((tag_letters.f k x177001 4 4).bind fun t179 => (if t179 = true then ((tag_title.f x177001).bind fun t180 => (tag_Check.j1 k (x177001.toList != t180.toList) x177000 x177001 x177002 x177003 x177004)) else (tag_Check.j1 k true x177000 x177001 x177002 x177003 x177004))))
def tag_Check.j1 : Nat → Bool → ByteArray → ByteArray → ByteArray → List ByteArray → List (S39) → Option (Int)
 | 0, _, _, _, _, _, _ => none
 | k + 1, x47, x177000, x177001, x177002, x177003, x177004 => if x47 = true then (some 70) else (if x177002.toList = ([] : List UInt8) then (tag_Check.j2 k false x177000 x177001 x177002 x177003 x177004) else ((tag_region.f k x177002).bind fun t181 => (if t181 = true then ((tag_upper.f x177002).bind fun t182 => (tag_Check.j2 k (x177002.toList != t182.toList) x177000 x177001 x177002 x177003 x177004)) else (tag_Check.j2 k true x177000 x177001 x177002 x177003 x177004))))
def tag_Check.j2 : Nat → Bool → ByteArray → ByteArray → ByteArray → List ByteArray → List (S39) → Option (Int)
 | 0, _, _, _, _, _, _ => none
 | k + 1, x64, x177000, x177001, x177002, x177003, x177004 => if x64 = true then (some 70) else (if (x177003.length : Int) > 64 then (some 5) else (tag_Check.l0 k x177003 (x177003.length : Int) 0 x177000 x177001 x177002 x177003 x177004))
def tag_Check.l0 : Nat → List ByteArray → Int → Int → ByteArray → ByteArray → ByteArray → List ByteArray → List (S39) → Option (Int)
 | 0, _, _, _, _, _, _, _, _ => none
 | k + 1, x70, x71, x72, x177000, x177001, x177002, x177003, x177004 => if x72 < x71 then (if 0 ≤ x72 then (if x72 < (x70.length : Int) then ((tag_variant.f k (rdOf ByteArray.empty x70 x72)).bind fun t184 => (if t184 = true then ((tag_lower.f (rdOf ByteArray.empty x70 x72)).bind fun t185 => (tag_Check.j4 k x72 (rdOf ByteArray.empty x70 x72) x70 x71 x72 ((rdOf ByteArray.empty x70 x72).toList != t185.toList) x177000 x177001 x177002 x177003 x177004)) else (tag_Check.j4 k x72 (rdOf ByteArray.empty x70 x72) x70 x71 x72 true x177000 x177001 x177002 x177003 x177004))) else (none)) else (none)) else (if (x177004.length : Int) > 64 then (some 5) else (tag_Check.l1 k x177004 (x177004.length : Int) 0 x177000 x177001 x177002 x177003 x177004))
def tag_Check.j4 : Nat → Int → ByteArray → List ByteArray → Int → Int → Bool → ByteArray → ByteArray → ByteArray → List ByteArray → List (S39) → Option (Int)
 | 0, _, _, _, _, _, _, _, _, _, _, _ => none
 | k + 1, x3, x4, x70, x71, x72, x85, x177000, x177001, x177002, x177003, x177004 => if x85 = true then (some 70) else (if x3 > 0 then (if 0 ≤ (wrap64 (x3 - 1)) then (if (wrap64 (x3 - 1)) < (x177003.length : Int) then ((tag_rising.f (rdOf ByteArray.empty x177003 (wrap64 (x3 - 1))) x4).bind fun t187 => (if t187 = 0 then (tag_Check.l0 k x70 x71 (wrap64 (x72 + 1)) x177000 x177001 x177002 x177003 x177004) else (some t187))) else (none)) else (none)) else (tag_Check.l0 k x70 x71 (wrap64 (x72 + 1)) x177000 x177001 x177002 x177003 x177004))
def tag_Check.l1 : Nat → List (S39) → Int → Int → ByteArray → ByteArray → ByteArray → List ByteArray → List (S39) → Option (Int)
 | 0, _, _, _, _, _, _, _, _ => none
 | k + 1, x105, x106, x107, x177000, x177001, x177002, x177003, x177004 => if x107 < x106 then (if 0 ≤ x107 then (if x107 < (x105.length : Int) then ((tag_signs.f k ((rd_T39 x105 x107).f0) 2 2).bind fun t190 => (if t190 = true then ((tag_lower.f ((rd_T39 x105 x107).f0)).bind fun t191 => (if ((rd_T39 x105 x107).f0).toList = t191.toList then ((tag_valued.f k ((rd_T39 x105 x107).f1)).bind fun t192 => (tag_Check.j6 k x107 x105 x106 x107 (!t192) x177000 x177001 x177002 x177003 x177004 ((rd_T39 x105 x107).f0) ((rd_T39 x105 x107).f1))) else (tag_Check.j6 k x107 x105 x106 x107 true x177000 x177001 x177002 x177003 x177004 ((rd_T39 x105 x107).f0) ((rd_T39 x105 x107).f1)))) else (tag_Check.j6 k x107 x105 x106 x107 true x177000 x177001 x177002 x177003 x177004 ((rd_T39 x105 x107).f0) ((rd_T39 x105 x107).f1)))) else (none)) else (none)) else (some 0)
def tag_Check.j6 : Nat → Int → List (S39) → Int → Int → Bool → ByteArray → ByteArray → ByteArray → List ByteArray → List (S39) → ByteArray → ByteArray → Option (Int)
 | 0, _, _, _, _, _, _, _, _, _, _, _, _ => none
 | k + 1, x6, x105, x106, x107, x129, x177000, x177001, x177002, x177003, x177004, x190000, x190001 => if x129 = true then (some 70) else (if x6 > 0 then (if 0 ≤ (wrap64 (x6 - 1)) then (if (wrap64 (x6 - 1)) < (x177004.length : Int) then ((tag_rising.f ((rd_T39 x177004 (wrap64 (x6 - 1))).f0) x190000).bind fun t194 => (if t194 = 0 then (tag_Check.l1 k x105 x106 (wrap64 (x107 + 1)) x177000 x177001 x177002 x177003 x177004) else (some t194))) else (none)) else (none)) else (tag_Check.l1 k x105 x106 (wrap64 (x107 + 1)) x177000 x177001 x177002 x177003 x177004))
end
def tag_Check.f (k : Nat) (a0_0 : ByteArray) (a0_1 : ByteArray) (a0_2 : ByteArray) (l0_3 : List ByteArray) (l0_4 : List (S39)) : Option (Int) := if a0_0.toList = ([] : List UInt8) then (tag_Check.j0 k false a0_0 a0_1 a0_2 l0_3 l0_4) else ((tag_letters.f k a0_0 2 3).bind fun t177 => (if t177 = true then ((tag_lower.f a0_0).bind fun t178 => (if a0_0.toList = t178.toList then (tag_Check.j0 k (a0_0.toList == ([117, 110, 100] : List UInt8)) a0_0 a0_1 a0_2 l0_3 l0_4) else (tag_Check.j0 k true a0_0 a0_1 a0_2 l0_3 l0_4))) else (tag_Check.j0 k true a0_0 a0_1 a0_2 l0_3 l0_4)))
theorem tag_Check.mono_l : ∀ k, (∀ y0 y1 y2 y3 y4 y5, LeO (tag_Check.j0 k y0 y1 y2 y3 y4 y5) (tag_Check.j0 (k + 1) y0 y1 y2 y3 y4 y5)) ∧ (∀ y0 y1 y2 y3 y4 y5, LeO (tag_Check.j1 k y0 y1 y2 y3 y4 y5) (tag_Check.j1 (k + 1) y0 y1 y2 y3 y4 y5)) ∧ (∀ y0 y1 y2 y3 y4 y5, LeO (tag_Check.j2 k y0 y1 y2 y3 y4 y5) (tag_Check.j2 (k + 1) y0 y1 y2 y3 y4 y5)) ∧ (∀ y0 y1 y2 y3 y4 y5 y6 y7, LeO (tag_Check.l0 k y0 y1 y2 y3 y4 y5 y6 y7) (tag_Check.l0 (k + 1) y0 y1 y2 y3 y4 y5 y6 y7)) ∧ (∀ y0 y1 y2 y3 y4 y5 y6 y7 y8 y9 y10, LeO (tag_Check.j4 k y0 y1 y2 y3 y4 y5 y6 y7 y8 y9 y10) (tag_Check.j4 (k + 1) y0 y1 y2 y3 y4 y5 y6 y7 y8 y9 y10)) ∧ (∀ y0 y1 y2 y3 y4 y5 y6 y7, LeO (tag_Check.l1 k y0 y1 y2 y3 y4 y5 y6 y7) (tag_Check.l1 (k + 1) y0 y1 y2 y3 y4 y5 y6 y7)) ∧ (∀ y0 y1 y2 y3 y4 y5 y6 y7 y8 y9 y10 y11, LeO (tag_Check.j6 k y0 y1 y2 y3 y4 y5 y6 y7 y8 y9 y10 y11) (tag_Check.j6 (k + 1) y0 y1 y2 y3 y4 y5 y6 y7 y8 y9 y10 y11))
 | 0 => ⟨fun _ _ _ _ _ _ r h => by simp [tag_Check.j0] at h, fun _ _ _ _ _ _ r h => by simp [tag_Check.j1] at h, fun _ _ _ _ _ _ r h => by simp [tag_Check.j2] at h, fun _ _ _ _ _ _ _ _ r h => by simp [tag_Check.l0] at h, fun _ _ _ _ _ _ _ _ _ _ _ r h => by simp [tag_Check.j4] at h, fun _ _ _ _ _ _ _ _ r h => by simp [tag_Check.l1] at h, fun _ _ _ _ _ _ _ _ _ _ _ _ r h => by simp [tag_Check.j6] at h⟩
 | k + 1 => by
  obtain ⟨ih0, ih1, ih2, ih3, ih4, ih5, ih6⟩ := tag_Check.mono_l k
  refine ⟨?_, ?_, ?_, ?_, ?_, ?_, ?_⟩
  intro y0 y1 y2 y3 y4 y5; unfold tag_Check.j0; rotate_left
  intro y0 y1 y2 y3 y4 y5; unfold tag_Check.j1; rotate_left
  intro y0 y1 y2 y3 y4 y5; unfold tag_Check.j2; rotate_left
  intro y0 y1 y2 y3 y4 y5 y6 y7; unfold tag_Check.l0; rotate_left
  intro y0 y1 y2 y3 y4 y5 y6 y7 y8 y9 y10; unfold tag_Check.j4; rotate_left
  intro y0 y1 y2 y3 y4 y5 y6 y7; unfold tag_Check.l1; rotate_left
  intro y0 y1 y2 y3 y4 y5 y6 y7 y8 y9 y10 y11; unfold tag_Check.j6; rotate_left
  all_goals repeat' first
   | (with_reducible exact ih0 _ _ _ _ _ _)
   | (with_reducible exact ih1 _ _ _ _ _ _)
   | (with_reducible exact ih2 _ _ _ _ _ _)
   | (with_reducible exact ih3 _ _ _ _ _ _ _ _)
   | (with_reducible exact ih4 _ _ _ _ _ _ _ _ _ _ _)
   | (with_reducible exact ih5 _ _ _ _ _ _ _ _)
   | (with_reducible exact ih6 _ _ _ _ _ _ _ _ _ _ _ _)
   | (with_reducible exact tag_letters.mono _ _ _ _)
   | (with_reducible exact tag_region.mono _ _)
   | (with_reducible exact tag_signs.mono _ _ _ _)
   | (with_reducible exact tag_valued.mono _ _)
   | (with_reducible exact tag_variant.mono _ _)
   | (with_reducible exact LeO.refl _)
   | (with_reducible exact LeO.none _)
   | (with_reducible refine LeO.ite ?_ ?_)
   | (with_reducible refine LeO.bind ?_ (fun _ => ?_))
   | exact ih0 _ _ _ _ _ _
   | exact ih1 _ _ _ _ _ _
   | exact ih2 _ _ _ _ _ _
   | exact ih3 _ _ _ _ _ _ _ _
   | exact ih4 _ _ _ _ _ _ _ _ _ _ _
   | exact ih5 _ _ _ _ _ _ _ _
   | exact ih6 _ _ _ _ _ _ _ _ _ _ _ _
   | exact tag_letters.mono _ _ _ _
   | exact tag_region.mono _ _
   | exact tag_signs.mono _ _ _ _
   | exact tag_valued.mono _ _
   | exact tag_variant.mono _ _
   | exact LeO.none _
   | refine LeO.ite ?_ ?_
   | refine LeO.bind ?_ (fun _ => ?_)
theorem tag_Check.mono : ∀ a0 a1 a2 a3 a4 k, LeO (tag_Check.f k a0 a1 a2 a3 a4) (tag_Check.f (k + 1) a0 a1 a2 a3 a4) := by
 intro a0 a1 a2 a3 a4 k
 obtain ⟨ih0, ih1, ih2, ih3, ih4, ih5, ih6⟩ := tag_Check.mono_l k
 unfold tag_Check.f
 repeat' first
   | (with_reducible exact ih0 _ _ _ _ _ _)
   | (with_reducible exact ih1 _ _ _ _ _ _)
   | (with_reducible exact ih2 _ _ _ _ _ _)
   | (with_reducible exact ih3 _ _ _ _ _ _ _ _)
   | (with_reducible exact ih4 _ _ _ _ _ _ _ _ _ _ _)
   | (with_reducible exact ih5 _ _ _ _ _ _ _ _)
   | (with_reducible exact ih6 _ _ _ _ _ _ _ _ _ _ _ _)
   | (with_reducible exact tag_letters.mono _ _ _ _)
   | (with_reducible exact tag_region.mono _ _)
   | (with_reducible exact tag_signs.mono _ _ _ _)
   | (with_reducible exact tag_valued.mono _ _)
   | (with_reducible exact tag_variant.mono _ _)
   | (with_reducible exact LeO.refl _)
   | (with_reducible exact LeO.none _)
   | (with_reducible refine LeO.ite ?_ ?_)
   | (with_reducible refine LeO.bind ?_ (fun _ => ?_))
   | exact ih0 _ _ _ _ _ _
   | exact ih1 _ _ _ _ _ _
   | exact ih2 _ _ _ _ _ _
   | exact ih3 _ _ _ _ _ _ _ _
   | exact ih4 _ _ _ _ _ _ _ _ _ _ _
   | exact ih5 _ _ _ _ _ _ _ _
   | exact ih6 _ _ _ _ _ _ _ _ _ _ _ _
   | exact tag_letters.mono _ _ _ _
   | exact tag_region.mono _ _
   | exact tag_signs.mono _ _ _ _
   | exact tag_valued.mono _ _
   | exact tag_variant.mono _ _
   | exact LeO.none _
   | refine LeO.ite ?_ ?_
   | refine LeO.bind ?_ (fun _ => ?_)
def tag_Check.T1 : Bool × List (List Nat × List Nat) := (true, [([], []), ([0], [0]), ([1], [1]), ([2], [2]), ([3], [3]), ([4, 3], [3, 4]), ([5, 3, 3], [3, 5]), ([6, 3], [3, 6]), ([7, 6, 3], [3, 7]), ([8], [8]), ([9, 8], [8, 9]), ([8], [8]), ([11, 8], [8, 11]), ([12, 8, 8], [8, 12]), ([10, 13, 8], [8, 10, 13]), ([8, 14, 3], [3, 8, 14]), ([15, 13, 3], [3, 15]), ([16], [16]), ([17, 16], [16, 17]), ([18, 16], [16, 18]), ([16, 19, 3], [3, 16, 19]), ([3, 20], [3, 20])])
def tag_Check.B1 : List Nat := [0, 1, 3, 7, 15, 31, 63, 127, 255, 511, 1023, 511, 2559, 6655, 16383, 32767, 65535, 131071, 262143, 524287, 1048575, 2097151]
theorem tag_Check.tab1 : rtab .any (opsOf Tryz.f24 1) = tag_Check.T1 := by kernel_rfl
theorem tag_Check.bits1 : waitsOk tag_Check.T1.2 tag_Check.B1 = true := by kernel_rfl
def tag_Check.T3 : Bool × List (List Nat × List Nat) := (true, [([], []), ([0], [0]), ([1], [1]), ([2], [2]), ([3], [3]), ([4, 3], [3, 4]), ([5, 3, 3], [3, 5]), ([6, 3], [3, 6]), ([7, 6, 3], [3, 7]), ([8], [8]), ([9, 8], [8, 9]), ([8], [8]), ([11, 8], [8, 11]), ([12, 8, 8], [8, 12]), ([10, 13, 8], [8, 10, 13]), ([8, 14, 3], [3, 8, 14]), ([3, 15], [3, 15])])
def tag_Check.B3 : List Nat := [0, 1, 3, 7, 15, 31, 63, 127, 255, 511, 1023, 511, 2559, 6655, 16383, 32767, 65535]
theorem tag_Check.tab3 : rtab .any (opsOf Tryz.f24 3) = tag_Check.T3 := by kernel_rfl
theorem tag_Check.bits3 : waitsOk tag_Check.T3.2 tag_Check.B3 = true := by kernel_rfl
def tag_Check.T5 : Bool × List (List Nat × List Nat) := (true, [([], []), ([0], [0]), ([1], [1]), ([2], [2]), ([3], [3]), ([4, 3], [3, 4]), ([5, 3, 3], [3, 5]), ([6, 3], [3, 6]), ([7, 6, 3], [3, 7]), ([8], [8]), ([9, 8], [8, 9]), ([8], [8]), ([11, 8], [8, 11]), ([12, 8, 8], [8, 12]), ([10, 13, 8], [8, 10, 13]), ([8, 14, 3], [3, 8, 14]), ([3, 15], [3, 15])])
def tag_Check.B5 : List Nat := [0, 1, 3, 7, 15, 31, 63, 127, 255, 511, 1023, 511, 2559, 6655, 16383, 32767, 65535]
theorem tag_Check.tab5 : rtab .any (opsOf Tryz.f24 5) = tag_Check.T5 := by kernel_rfl
theorem tag_Check.bits5 : waitsOk tag_Check.T5.2 tag_Check.B5 = true := by kernel_rfl
def tag_Check.T24 : Bool × List (List Nat × List Nat) := (true, [([], []), ([0], [0]), ([1], [1]), ([2], [2]), ([3, 2], [3]), ([4], [4]), ([5, 4], [4, 5]), ([4], [4]), ([7, 4], [4, 7]), ([8, 4, 4], [4, 8]), ([6, 9, 4], [4, 6, 9]), ([4, 10], [4, 10]), ([11, 9], [11]), ([12], [12]), ([13, 12], [12, 13]), ([14, 12, 12], [12, 14]), ([15, 12], [12, 15]), ([12, 16], [12, 16])])
def tag_Check.B24 : List Nat := [0, 1, 3, 7, 15, 31, 63, 31, 159, 415, 1023, 2047, 4095, 8191, 16383, 32767, 65535, 131071]
theorem tag_Check.tab24 : rtab .any (opsOf Tryz.f24 24) = tag_Check.T24 := by kernel_rfl
theorem tag_Check.bits24 : waitsOk tag_Check.T24.2 tag_Check.B24 = true := by kernel_rfl
def tag_Check.T27 : Bool × List (List Nat × List Nat) := (true, [([], []), ([0], [0]), ([], []), ([2], [2]), ([1, 3], [1, 3]), ([4], [4]), ([5], [5]), ([], []), ([7], [7]), ([6, 8], [6, 8]), ([9, 9, 0, 1, 2, 3, 4, 5, 6, 7, 8, 9], [9])])
def tag_Check.B27 : List Nat := [0, 1, 0, 4, 15, 31, 63, 0, 128, 511, 1023]
theorem tag_Check.tab27 : rtab .any (opsOf Tryz.f24 27) = tag_Check.T27 := by kernel_rfl
theorem tag_Check.bits27 : waitsOk tag_Check.T27.2 tag_Check.B27 = true := by kernel_rfl
set_option maxHeartbeats 8000000 in
set_option maxRecDepth 100000 in
theorem tag_Check.calls (k : Nat) (a0_0 : ByteArray) (a0_1 : ByteArray) (a0_2 : ByteArray) (A0_3 : Option Addr) (c0_3 : Nat) (l0_3 : List ByteArray) (A0_4 : Option Addr) (c0_4 : Nat) (l0_4 : List (S39)) (r : Int) (w : World) (hr0_3 : Kd.C Kd.string w A0_3 l0_3.length l0_3) (hc0_3 : l0_3.length ≤ c0_3) (hr0_4 : Kd.C k39 w A0_4 l0_4.length l0_4) (hc0_4 : l0_4.length ≤ c0_4) (hT : Tbl w) (h : tag_Check.f k a0_0 a0_1 a0_2 l0_3 l0_4 = some r) :
  Calls Tryz.prog 24 #[.agg #[.string a0_0, .string a0_1, .string a0_2, .slice A0_3 l0_3.length c0_3, .slice A0_4 l0_4.length c0_4]] w fun e w' => e = .returned (.int .i64 r) ∧ Below w.heap.size w w' := by
 have hu25 := Tryz.underlying25
 have hu39 := Tryz.underlying39
 have HR0_3 := Aside0.mk hr0_3
 have HC0_3 := Aside0.mk hc0_3
 clear hr0_3 hc0_3
 have HR0_4 := Aside0.mk hr0_4
 have HC0_4 := Aside0.mk hc0_4
 clear hr0_4 hc0_4
 have HB := Aside0.mk (Below.refl w.heap.size w)
 have HT := Aside0.mk hT
 clear hT
 have H : (if a0_0.toList = ([] : List UInt8) then (tag_Check.j0 k false a0_0 a0_1 a0_2 l0_3 l0_4) else ((tag_letters.f k a0_0 2 3).bind fun t177 => (if t177 = true then ((tag_lower.f a0_0).bind fun t178 => (if a0_0.toList = t178.toList then (tag_Check.j0 k (a0_0.toList == ([117, 110, 100] : List UInt8)) a0_0 a0_1 a0_2 l0_3 l0_4) else (tag_Check.j0 k true a0_0 a0_1 a0_2 l0_3 l0_4))) else (tag_Check.j0 k true a0_0 a0_1 a0_2 l0_3 l0_4)))) = some r := h
 clear h
 have HC2 := Aside0.mk H
 clear H
 go_enter Tryz.func24, Tryz.ntmps24
 go_upto_region 1 with (first | (refine bx_ 1 #[.string a0_0, .string a0_1, .string a0_2, .slice A0_3 l0_3.length c0_3, .slice A0_4 l0_4.length c0_4] 25 ?_; intro gb176 hg w3 hbox hb; have BK176 := Aside0.mk (hbox); have GW176 := Aside0.mk ((by rw [hg]; exact hz_ : w.heap.size ≤ gb176)); have GE176 := Aside0.mk ((by rw [hg]; exact hz_ : w.heap.size ≤ gb176)); replace HB := Aside0.mk (below_step hb_ hb); clear hb hbox hg))
 (try simp only [Act.put, List.setIfInBounds_toArray, List.set_cons_zero, List.set_cons_succ])
 go_cut [30] (fun v30 wc => ∃ (kq : Nat) (x30_1 : Bool), v30 = .bool x30_1 ∧ Aside0 (tag_Check.j0 kq x30_1 a0_0 a0_1 a0_2 l0_3 l0_4 = some r) ∧ Aside0 (kq ≤ k) ∧ Aside0 (wc.heap[gb176]? = some (.cells #[.string a0_0, .string a0_1, .string a0_2, (.slice A0_3 l0_3.length c0_3), (.slice A0_4 l0_4.length c0_4)] 25 (0, 0))) ∧ Aside0 (Below w.heap.size w wc))
 case first =>
  have H := HC2.out
  clear HC2
  by_cases c4 : a0_0.toList = ([] : List UInt8)
  ·rw [if_pos c4] at H
   have c4b0 : (a0_0.toList == ([] : List UInt8)) = true := beq_iff_eq.mpr c4
   have c4b1 : (a0_0.toList != ([] : List UInt8)) = false := bne_eq_false_iff_eq.mpr c4
   have c4b2 : a0_0.toList.isEmpty = true := List.isEmpty_iff.mpr c4
   clear c4
   (first | rw [c4b0] | rw [c4b1] | rw [c4b2] | (simp only [i64_w, i32_w]; rw [c4b0]) | skip)
   (try simp only [Bool.not_true, Bool.not_false])
   have H' := Aside0.mk H
   clear H
   try go_wp2
   replace BK176 := Aside0.mk (blk_drew BK176.out)
   replace HB := Aside0.mk (below_drew1 HB.out)
   refine st5_ 22 tag_Check.tab1 tag_Check.bits1 BK176 (fun hHeld HT_ HW_ => ?_)
   generalize w3.drew = w5 at BK176 HB hHeld ⊢
   iterate 22 (first | refine sk_ HT_ ?_ | refine pu_ HT_ ?_ | refine tk_ HT_ HW_ hHeld ?_)
   refine dg_ HT_ ?_
   try go_wp2
   go_meet
   case rel => exact ⟨_, (false), (by first | rfl | (simp; done) | (simp [*]; done)), H', ⟨by first | omega | exact Nat.le_refl _⟩, ⟨by (with_reducible repeat (first | refine blk_drewN ?_ _ | refine blk_drew ?_ | refine blk_alloc ?_ _)); exact BK176.out⟩, ⟨by repeat (first | (with_reducible first | exact HB.out | apply below_alloc | apply pw_below_drewN | apply below_drew1 | refine below_set ?_ GE176.out) | exact HB.out)⟩⟩
  ·rw [if_neg c4] at H
   have c4b0 : (a0_0.toList == ([] : List UInt8)) = false := beq_eq_false_iff_ne.mpr c4
   have c4b1 : (a0_0.toList != ([] : List UInt8)) = true := bne_iff_ne.mpr c4
   have c4b2 : a0_0.toList.isEmpty = false := List.isEmpty_eq_false_iff.mpr c4
   (first | rw [c4b0] | rw [c4b1] | rw [c4b2] | (simp only [i64_w, i32_w]; rw [c4b0]) | skip)
   (try simp only [Bool.not_true, Bool.not_false])
   replace H := Option.bind_eq_some_iff.mp H
   obtain ⟨t177, A60, H⟩ := H
   try dsimp only at H
   have A6 := Aside0.mk A60
   clear A60
   by_cases c7 : t177 = true
   ·subst c7
    have H1 : ((tag_lower.f a0_0).bind fun t178 => (if a0_0.toList = t178.toList then (tag_Check.j0 k (a0_0.toList == ([117, 110, 100] : List UInt8)) a0_0 a0_1 a0_2 l0_3 l0_4) else (tag_Check.j0 k true a0_0 a0_1 a0_2 l0_3 l0_4))) = some r := by rw [if_pos rfl] at H; exact H
    clear H
    have H := H1
    clear H1
    replace H := Option.bind_eq_some_iff.mp H
    obtain ⟨t178, A80, H⟩ := H
    try dsimp only at H
    have A8 := Aside0.mk A80
    clear A80
    by_cases c9 : a0_0.toList = t178.toList
    ·rw [if_pos c9] at H
     have c9b0 : (a0_0.toList == t178.toList) = true := beq_iff_eq.mpr c9
     have c9b1 : (a0_0.toList != t178.toList) = false := bne_eq_false_iff_eq.mpr c9
     clear c9
     have H' := Aside0.mk H
     clear H
     try go_wp2
     replace BK176 := Aside0.mk (blk_drew BK176.out)
     replace HB := Aside0.mk (below_drew1 HB.out)
     refine st5_ 22 tag_Check.tab1 tag_Check.bits1 BK176 (fun hHeld HT_ HW_ => ?_)
     generalize w3.drew = w10 at BK176 HB hHeld ⊢
     iterate 6 (first | refine pu_ HT_ ?_ | refine tk_ HT_ HW_ hHeld ?_)
     refine cg_ 6 (bmp 22 7) (some 15) Tryz.func53 #[.string a0_0, .int .i64 2, .int .i64 3] HT_ ?_
     with_reducible refine (tag_letters.calls k a0_0 2 3 true _ A6.out).mono ?_
     rintro e w' ⟨rfl, ⟨nd, rfl⟩⟩
     refine ⟨_, rfl, s5_ BK176, fun hHeld => nm_ ?_⟩
     iterate 3 (refine pu_ HT_ ?_)
     refine pg_ 11 (bm 22 3071) HT_ ?_
     refine tg_ 10 (bmp 22 12) HT_ HW_ hHeld ?_
     refine tk_ HT_ HW_ hHeld ?_
     refine cg_ 13 (bmp 22 14) (some 22) Tryz.func44 #[.string a0_0] HT_ ?_
     with_reducible refine (tag_lower.calls a0_0 t178 _ A8.out).mono ?_
     rintro e w11 ⟨rfl, hb⟩
     replace BK176 := Aside0.mk (blk_below (g := gb176) (o := .cells #[.string a0_0, .string a0_1, .string a0_2, .slice A0_3 l0_3.length c0_3, .slice A0_4 l0_4.length c0_4] 25 (0, 0)) (bk_ BK176) hb)
     replace HB := Aside0.mk (below_step (by repeat (first | (with_reducible first | exact HB.out | apply below_alloc | apply pw_below_drewN | apply below_drew1 | refine below_set ?_ GE176.out) | exact HB.out)) hb)
     (try clear hb)
     (try clear hb2)
     (try clear hk)
     (try clear hi)
     refine ⟨_, rfl, s5_ BK176, fun hHeld => nm_ ?_⟩
     iterate 8 (first | refine pu_ HT_ ?_ | refine tk_ HT_ HW_ hHeld ?_)
     refine dg_ HT_ ?_
     try go_wp2
     go_meet
     case rel => exact ⟨_, ((a0_0.toList == ([117, 110, 100] : List UInt8))), (by first | rfl | (simp; done) | (simp [*]; done)), H', ⟨by first | omega | exact Nat.le_refl _⟩, ⟨by (with_reducible repeat (first | refine blk_drewN ?_ _ | refine blk_drew ?_ | refine blk_alloc ?_ _)); exact BK176.out⟩, ⟨by repeat (first | (with_reducible first | exact HB.out | apply below_alloc | apply pw_below_drewN | apply below_drew1 | refine below_set ?_ GE176.out) | exact HB.out)⟩⟩
    ·rw [if_neg c9] at H
     have c9b0 : (a0_0.toList == t178.toList) = false := beq_eq_false_iff_ne.mpr c9
     have c9b1 : (a0_0.toList != t178.toList) = true := bne_iff_ne.mpr c9
     have H' := Aside0.mk H
     clear H
     try go_wp2
     replace BK176 := Aside0.mk (blk_drew BK176.out)
     replace HB := Aside0.mk (below_drew1 HB.out)
     refine st5_ 22 tag_Check.tab1 tag_Check.bits1 BK176 (fun hHeld HT_ HW_ => ?_)
     generalize w3.drew = w12 at BK176 HB hHeld ⊢
     iterate 6 (first | refine pu_ HT_ ?_ | refine tk_ HT_ HW_ hHeld ?_)
     refine cg_ 6 (bmp 22 7) (some 15) Tryz.func53 #[.string a0_0, .int .i64 2, .int .i64 3] HT_ ?_
     with_reducible refine (tag_letters.calls k a0_0 2 3 true _ A6.out).mono ?_
     rintro e w' ⟨rfl, ⟨nd, rfl⟩⟩
     refine ⟨_, rfl, s5_ BK176, fun hHeld => nm_ ?_⟩
     iterate 3 (refine pu_ HT_ ?_)
     refine pg_ 11 (bm 22 3071) HT_ ?_
     refine tg_ 10 (bmp 22 12) HT_ HW_ hHeld ?_
     refine tk_ HT_ HW_ hHeld ?_
     refine cg_ 13 (bmp 22 14) (some 22) Tryz.func44 #[.string a0_0] HT_ ?_
     with_reducible refine (tag_lower.calls a0_0 t178 _ A8.out).mono ?_
     rintro e w13 ⟨rfl, hb⟩
     replace BK176 := Aside0.mk (blk_below (g := gb176) (o := .cells #[.string a0_0, .string a0_1, .string a0_2, .slice A0_3 l0_3.length c0_3, .slice A0_4 l0_4.length c0_4] 25 (0, 0)) (bk_ BK176) hb)
     replace HB := Aside0.mk (below_step (by repeat (first | (with_reducible first | exact HB.out | apply below_alloc | apply pw_below_drewN | apply below_drew1 | refine below_set ?_ GE176.out) | exact HB.out)) hb)
     (try clear hb)
     (try clear hb2)
     (try clear hk)
     (try clear hi)
     refine ⟨_, rfl, s5_ BK176, fun hHeld => nm_ ?_⟩
     iterate 8 (first | refine sk_ HT_ ?_ | refine pu_ HT_ ?_)
     refine dg_ HT_ ?_
     try go_wp2
     go_meet
     case rel => exact ⟨_, (true), (by first | rfl | (simp; done) | (simp [*]; done)), H', ⟨by first | omega | exact Nat.le_refl _⟩, ⟨by (with_reducible repeat (first | refine blk_drewN ?_ _ | refine blk_drew ?_ | refine blk_alloc ?_ _)); exact BK176.out⟩, ⟨by repeat (first | (with_reducible first | exact HB.out | apply below_alloc | apply pw_below_drewN | apply below_drew1 | refine below_set ?_ GE176.out) | exact HB.out)⟩⟩
   ·replace c7 := Bool.eq_false_iff.mpr c7
    subst c7
    have H1 : (tag_Check.j0 k true a0_0 a0_1 a0_2 l0_3 l0_4) = some r := by rw [if_neg (show ¬ (false = true) by decide)] at H; exact H
    clear H
    have H := H1
    clear H1
    have H' := Aside0.mk H
    clear H
    try go_wp2
    replace BK176 := Aside0.mk (blk_drew BK176.out)
    replace HB := Aside0.mk (below_drew1 HB.out)
    refine st5_ 22 tag_Check.tab1 tag_Check.bits1 BK176 (fun hHeld HT_ HW_ => ?_)
    generalize w3.drew = w14 at BK176 HB hHeld ⊢
    iterate 6 (first | refine pu_ HT_ ?_ | refine tk_ HT_ HW_ hHeld ?_)
    refine cg_ 6 (bmp 22 7) (some 15) Tryz.func53 #[.string a0_0, .int .i64 2, .int .i64 3] HT_ ?_
    with_reducible refine (tag_letters.calls k a0_0 2 3 false _ A6.out).mono ?_
    rintro e w' ⟨rfl, ⟨nd, rfl⟩⟩
    refine ⟨_, rfl, s5_ BK176, fun hHeld => nm_ ?_⟩
    iterate 15 (first | refine sk_ HT_ ?_ | refine pu_ HT_ ?_)
    refine dg_ HT_ ?_
    try go_wp2
    go_meet
    case rel => exact ⟨_, (true), (by first | rfl | (simp; done) | (simp [*]; done)), H', ⟨by first | omega | exact Nat.le_refl _⟩, ⟨by (with_reducible repeat (first | refine blk_drewN ?_ _ | refine blk_drew ?_ | refine blk_alloc ?_ _)); exact BK176.out⟩, ⟨by repeat (first | (with_reducible first | exact HB.out | apply below_alloc | apply pw_below_drewN | apply below_drew1 | refine below_set ?_ GE176.out) | exact HB.out)⟩⟩
 case rest =>
  clear HC2
  obtain ⟨kq, x30_1, rfl, HA, HJ1, BK176, HB⟩ := hcut
  cases kq with
  | zero => exact absurd HA.out (by simp [tag_Check.j0])
  | succ kj1 =>
   have H := HA.out
   clear HA
   simp only [tag_Check.j0] at H
   by_cases c15 : x30_1 = true
   ·subst c15
    have H1 : (some 70) = some r := by rw [if_pos rfl] at H; exact H
    clear H
    have H := H1
    clear H1
    obtain rfl := Option.some.inj H
    go_wp2
    go_ret
    exact ⟨by first | rfl | (simp [errW_none, errW_some] <;> rfl) | (simp [*, errW_none, errW_some] <;> rfl), by repeat (first | (with_reducible first | exact HB.out | apply below_alloc | apply pw_below_drewN | apply below_drew1 | refine below_set ?_ GE176.out) | exact HB.out)⟩
   ·replace c15 := Bool.eq_false_iff.mpr c15
    subst c15
    have H1 : (if a0_1.toList = ([] : List UInt8) then (tag_Check.j1 kj1 false a0_0 a0_1 a0_2 l0_3 l0_4) else ((tag_letters.f kj1 a0_1 4 4).bind fun t179 => (if t179 = true then ((tag_title.f a0_1).bind fun t180 => (tag_Check.j1 kj1 (a0_1.toList != t180.toList) a0_0 a0_1 a0_2 l0_3 l0_4)) else (tag_Check.j1 kj1 true a0_0 a0_1 a0_2 l0_3 l0_4)))) = some r := by rw [if_neg (show ¬ (false = true) by decide)] at H; exact H
    clear H
    have H := H1
    clear H1
    have HC16 := Aside0.mk H
    clear H
    go_upto_region 3 with (fail)
    go_cut [47] (fun v47 wc => ∃ (kq : Nat) (x47_15 : Bool), v47 = .bool x47_15 ∧ Aside0 (tag_Check.j1 kq x47_15 a0_0 a0_1 a0_2 l0_3 l0_4 = some r) ∧ Aside0 (kq ≤ kj1) ∧ Aside0 (wc.heap[gb176]? = some (.cells #[.string a0_0, .string a0_1, .string a0_2, (.slice A0_3 l0_3.length c0_3), (.slice A0_4 l0_4.length c0_4)] 25 (0, 0))) ∧ Aside0 (Below w.heap.size w wc))
    case first =>
     have H := HC16.out
     clear HC16
     by_cases c17 : a0_1.toList = ([] : List UInt8)
     ·rw [if_pos c17] at H
      have c17b0 : (a0_1.toList == ([] : List UInt8)) = true := beq_iff_eq.mpr c17
      have c17b1 : (a0_1.toList != ([] : List UInt8)) = false := bne_eq_false_iff_eq.mpr c17
      have c17b2 : a0_1.toList.isEmpty = true := List.isEmpty_iff.mpr c17
      clear c17
      (first | rw [c17b0] | rw [c17b1] | rw [c17b2] | (simp only [i64_w, i32_w]; rw [c17b0]) | skip)
      (try simp only [Bool.not_true, Bool.not_false])
      have H' := Aside0.mk H
      clear H
      try go_wp2
      replace BK176 := Aside0.mk (blk_drew BK176.out)
      replace HB := Aside0.mk (below_drew1 HB.out)
      refine st5_ 17 tag_Check.tab3 tag_Check.bits3 BK176 (fun hHeld HT_ HW_ => ?_)
      generalize wc.drew = w18 at BK176 HB hHeld ⊢
      iterate 17 (first | refine sk_ HT_ ?_ | refine pu_ HT_ ?_ | refine tk_ HT_ HW_ hHeld ?_)
      refine dg_ HT_ ?_
      try go_wp2
      go_meet
      case rel => exact ⟨_, (false), (by first | rfl | (simp; done) | (simp [*]; done)), H', ⟨by have := HJ1.out; first | omega | exact Nat.le_refl _⟩, ⟨by (with_reducible repeat (first | refine blk_drewN ?_ _ | refine blk_drew ?_ | refine blk_alloc ?_ _)); exact BK176.out⟩, ⟨by repeat (first | (with_reducible first | exact HB.out | apply below_alloc | apply pw_below_drewN | apply below_drew1 | refine below_set ?_ GE176.out) | exact HB.out)⟩⟩
     ·rw [if_neg c17] at H
      have c17b0 : (a0_1.toList == ([] : List UInt8)) = false := beq_eq_false_iff_ne.mpr c17
      have c17b1 : (a0_1.toList != ([] : List UInt8)) = true := bne_iff_ne.mpr c17
      have c17b2 : a0_1.toList.isEmpty = false := List.isEmpty_eq_false_iff.mpr c17
      (first | rw [c17b0] | rw [c17b1] | rw [c17b2] | (simp only [i64_w, i32_w]; rw [c17b0]) | skip)
      (try simp only [Bool.not_true, Bool.not_false])
      replace H := Option.bind_eq_some_iff.mp H
      obtain ⟨t179, A190, H⟩ := H
      try dsimp only at H
      have A19 := Aside0.mk A190
      clear A190
      by_cases c20 : t179 = true
      ·subst c20
       have H1 : ((tag_title.f a0_1).bind fun t180 => (tag_Check.j1 kj1 (a0_1.toList != t180.toList) a0_0 a0_1 a0_2 l0_3 l0_4)) = some r := by rw [if_pos rfl] at H; exact H
       clear H
       have H := H1
       clear H1
       replace H := Option.bind_eq_some_iff.mp H
       obtain ⟨t180, A210, H⟩ := H
       try dsimp only at H
       have A21 := Aside0.mk A210
       clear A210
       have H' := Aside0.mk H
       clear H
       try go_wp2
       replace BK176 := Aside0.mk (blk_drew BK176.out)
       replace HB := Aside0.mk (below_drew1 HB.out)
       refine st5_ 17 tag_Check.tab3 tag_Check.bits3 BK176 (fun hHeld HT_ HW_ => ?_)
       generalize wc.drew = w22 at BK176 HB hHeld ⊢
       iterate 6 (first | refine pu_ HT_ ?_ | refine tk_ HT_ HW_ hHeld ?_)
       refine cg_ 6 (bmp 17 7) (some 37) Tryz.func53 #[.string a0_1, .int .i64 4, .int .i64 4] HT_ ?_
       with_reducible refine (tag_letters.calls kj1 a0_1 4 4 true _ A19.out).mono ?_
       rintro e w' ⟨rfl, ⟨nd, rfl⟩⟩
       refine ⟨_, rfl, s5_ BK176, fun hHeld => nm_ ?_⟩
       iterate 3 (refine pu_ HT_ ?_)
       refine pg_ 11 (bm 17 3071) HT_ ?_
       refine tg_ 10 (bmp 17 12) HT_ HW_ hHeld ?_
       refine tk_ HT_ HW_ hHeld ?_
       refine cg_ 13 (bmp 17 14) (some 44) Tryz.func54 #[.string a0_1] HT_ ?_
       with_reducible refine (tag_title.calls a0_1 t180 _ A21.out).mono ?_
       rintro e w23 ⟨rfl, hb⟩
       replace BK176 := Aside0.mk (blk_below (g := gb176) (o := .cells #[.string a0_0, .string a0_1, .string a0_2, .slice A0_3 l0_3.length c0_3, .slice A0_4 l0_4.length c0_4] 25 (0, 0)) (bk_ BK176) hb)
       replace HB := Aside0.mk (below_step (by repeat (first | (with_reducible first | exact HB.out | apply below_alloc | apply pw_below_drewN | apply below_drew1 | refine below_set ?_ GE176.out) | exact HB.out)) hb)
       (try clear hb)
       (try clear hb2)
       (try clear hk)
       (try clear hi)
       refine ⟨_, rfl, s5_ BK176, fun hHeld => nm_ ?_⟩
       iterate 3 (refine pu_ HT_ ?_)
       refine dg_ HT_ ?_
       try go_wp2
       go_meet
       case rel => exact ⟨_, ((a0_1.toList != t180.toList)), (by first | rfl | (simp; done) | (simp [*]; done)), H', ⟨by have := HJ1.out; first | omega | exact Nat.le_refl _⟩, ⟨by (with_reducible repeat (first | refine blk_drewN ?_ _ | refine blk_drew ?_ | refine blk_alloc ?_ _)); exact BK176.out⟩, ⟨by repeat (first | (with_reducible first | exact HB.out | apply below_alloc | apply pw_below_drewN | apply below_drew1 | refine below_set ?_ GE176.out) | exact HB.out)⟩⟩
      ·replace c20 := Bool.eq_false_iff.mpr c20
       subst c20
       have H1 : (tag_Check.j1 kj1 true a0_0 a0_1 a0_2 l0_3 l0_4) = some r := by rw [if_neg (show ¬ (false = true) by decide)] at H; exact H
       clear H
       have H := H1
       clear H1
       have H' := Aside0.mk H
       clear H
       try go_wp2
       replace BK176 := Aside0.mk (blk_drew BK176.out)
       replace HB := Aside0.mk (below_drew1 HB.out)
       refine st5_ 17 tag_Check.tab3 tag_Check.bits3 BK176 (fun hHeld HT_ HW_ => ?_)
       generalize wc.drew = w24 at BK176 HB hHeld ⊢
       iterate 6 (first | refine pu_ HT_ ?_ | refine tk_ HT_ HW_ hHeld ?_)
       refine cg_ 6 (bmp 17 7) (some 37) Tryz.func53 #[.string a0_1, .int .i64 4, .int .i64 4] HT_ ?_
       with_reducible refine (tag_letters.calls kj1 a0_1 4 4 false _ A19.out).mono ?_
       rintro e w' ⟨rfl, ⟨nd, rfl⟩⟩
       refine ⟨_, rfl, s5_ BK176, fun hHeld => nm_ ?_⟩
       iterate 10 (first | refine sk_ HT_ ?_ | refine pu_ HT_ ?_)
       refine dg_ HT_ ?_
       try go_wp2
       go_meet
       case rel => exact ⟨_, (true), (by first | rfl | (simp; done) | (simp [*]; done)), H', ⟨by have := HJ1.out; first | omega | exact Nat.le_refl _⟩, ⟨by (with_reducible repeat (first | refine blk_drewN ?_ _ | refine blk_drew ?_ | refine blk_alloc ?_ _)); exact BK176.out⟩, ⟨by repeat (first | (with_reducible first | exact HB.out | apply below_alloc | apply pw_below_drewN | apply below_drew1 | refine below_set ?_ GE176.out) | exact HB.out)⟩⟩
    case rest =>
     clear HC16
     obtain ⟨kq, x47_15, rfl, HA, HJ15, BK176, HB⟩ := hcut
     cases kq with
     | zero => exact absurd HA.out (by simp [tag_Check.j1])
     | succ kj15 =>
      have H := HA.out
      clear HA
      simp only [tag_Check.j1] at H
      by_cases c25 : x47_15 = true
      ·subst c25
       have H1 : (some 70) = some r := by rw [if_pos rfl] at H; exact H
       clear H
       have H := H1
       clear H1
       obtain rfl := Option.some.inj H
       go_wp2
       go_ret
       exact ⟨by first | rfl | (simp [errW_none, errW_some] <;> rfl) | (simp [*, errW_none, errW_some] <;> rfl), by repeat (first | (with_reducible first | exact HB.out | apply below_alloc | apply pw_below_drewN | apply below_drew1 | refine below_set ?_ GE176.out) | exact HB.out)⟩
      ·replace c25 := Bool.eq_false_iff.mpr c25
       subst c25
       have H1 : (if a0_2.toList = ([] : List UInt8) then (tag_Check.j2 kj15 false a0_0 a0_1 a0_2 l0_3 l0_4) else ((tag_region.f kj15 a0_2).bind fun t181 => (if t181 = true then ((tag_upper.f a0_2).bind fun t182 => (tag_Check.j2 kj15 (a0_2.toList != t182.toList) a0_0 a0_1 a0_2 l0_3 l0_4)) else (tag_Check.j2 kj15 true a0_0 a0_1 a0_2 l0_3 l0_4)))) = some r := by rw [if_neg (show ¬ (false = true) by decide)] at H; exact H
       clear H
       have H := H1
       clear H1
       have HC26 := Aside0.mk H
       clear H
       go_upto_region 5 with (fail)
       go_cut [64] (fun v64 wc => ∃ (kq : Nat) (x64_25 : Bool), v64 = .bool x64_25 ∧ Aside0 (tag_Check.j2 kq x64_25 a0_0 a0_1 a0_2 l0_3 l0_4 = some r) ∧ Aside0 (kq ≤ kj15) ∧ Aside0 (wc.heap[gb176]? = some (.cells #[.string a0_0, .string a0_1, .string a0_2, (.slice A0_3 l0_3.length c0_3), (.slice A0_4 l0_4.length c0_4)] 25 (0, 0))) ∧ Aside0 (Below w.heap.size w wc))
       case first =>
        have H := HC26.out
        clear HC26
        by_cases c27 : a0_2.toList = ([] : List UInt8)
        ·rw [if_pos c27] at H
         have c27b0 : (a0_2.toList == ([] : List UInt8)) = true := beq_iff_eq.mpr c27
         have c27b1 : (a0_2.toList != ([] : List UInt8)) = false := bne_eq_false_iff_eq.mpr c27
         have c27b2 : a0_2.toList.isEmpty = true := List.isEmpty_iff.mpr c27
         clear c27
         (first | rw [c27b0] | rw [c27b1] | rw [c27b2] | (simp only [i64_w, i32_w]; rw [c27b0]) | skip)
         (try simp only [Bool.not_true, Bool.not_false])
         have H' := Aside0.mk H
         clear H
         try go_wp2
         replace BK176 := Aside0.mk (blk_drew BK176.out)
         replace HB := Aside0.mk (below_drew1 HB.out)
         refine st5_ 17 tag_Check.tab5 tag_Check.bits5 BK176 (fun hHeld HT_ HW_ => ?_)
         generalize wc.drew = w28 at BK176 HB hHeld ⊢
         iterate 17 (first | refine sk_ HT_ ?_ | refine pu_ HT_ ?_ | refine tk_ HT_ HW_ hHeld ?_)
         refine dg_ HT_ ?_
         try go_wp2
         go_meet
         case rel => exact ⟨_, (false), (by first | rfl | (simp; done) | (simp [*]; done)), H', ⟨by have := HJ1.out; have := HJ15.out; first | omega | exact Nat.le_refl _⟩, ⟨by (with_reducible repeat (first | refine blk_drewN ?_ _ | refine blk_drew ?_ | refine blk_alloc ?_ _)); exact BK176.out⟩, ⟨by repeat (first | (with_reducible first | exact HB.out | apply below_alloc | apply pw_below_drewN | apply below_drew1 | refine below_set ?_ GE176.out) | exact HB.out)⟩⟩
        ·rw [if_neg c27] at H
         have c27b0 : (a0_2.toList == ([] : List UInt8)) = false := beq_eq_false_iff_ne.mpr c27
         have c27b1 : (a0_2.toList != ([] : List UInt8)) = true := bne_iff_ne.mpr c27
         have c27b2 : a0_2.toList.isEmpty = false := List.isEmpty_eq_false_iff.mpr c27
         (first | rw [c27b0] | rw [c27b1] | rw [c27b2] | (simp only [i64_w, i32_w]; rw [c27b0]) | skip)
         (try simp only [Bool.not_true, Bool.not_false])
         replace H := Option.bind_eq_some_iff.mp H
         obtain ⟨t181, A290, H⟩ := H
         try dsimp only at H
         have A29 := Aside0.mk A290
         clear A290
         by_cases c30 : t181 = true
         ·subst c30
          have H1 : ((tag_upper.f a0_2).bind fun t182 => (tag_Check.j2 kj15 (a0_2.toList != t182.toList) a0_0 a0_1 a0_2 l0_3 l0_4)) = some r := by rw [if_pos rfl] at H; exact H
          clear H
          have H := H1
          clear H1
          replace H := Option.bind_eq_some_iff.mp H
          obtain ⟨t182, A310, H⟩ := H
          try dsimp only at H
          have A31 := Aside0.mk A310
          clear A310
          have H' := Aside0.mk H
          clear H
          try go_wp2
          replace BK176 := Aside0.mk (blk_drew BK176.out)
          replace HB := Aside0.mk (below_drew1 HB.out)
          refine st5_ 17 tag_Check.tab5 tag_Check.bits5 BK176 (fun hHeld HT_ HW_ => ?_)
          generalize wc.drew = w32 at BK176 HB hHeld ⊢
          iterate 6 (first | refine pu_ HT_ ?_ | refine tk_ HT_ HW_ hHeld ?_)
          refine cg_ 6 (bmp 17 7) (some 54) Tryz.func55 #[.string a0_2] HT_ ?_
          with_reducible refine (tag_region.calls kj15 a0_2 true _ A29.out).mono ?_
          rintro e w' ⟨rfl, ⟨nd, rfl⟩⟩
          refine ⟨_, rfl, s5_ BK176, fun hHeld => nm_ ?_⟩
          iterate 3 (refine pu_ HT_ ?_)
          refine pg_ 11 (bm 17 3071) HT_ ?_
          refine tg_ 10 (bmp 17 12) HT_ HW_ hHeld ?_
          refine tk_ HT_ HW_ hHeld ?_
          refine cg_ 13 (bmp 17 14) (some 61) Tryz.func56 #[.string a0_2] HT_ ?_
          with_reducible refine (tag_upper.calls a0_2 t182 _ A31.out).mono ?_
          rintro e w33 ⟨rfl, hb⟩
          replace BK176 := Aside0.mk (blk_below (g := gb176) (o := .cells #[.string a0_0, .string a0_1, .string a0_2, .slice A0_3 l0_3.length c0_3, .slice A0_4 l0_4.length c0_4] 25 (0, 0)) (bk_ BK176) hb)
          replace HB := Aside0.mk (below_step (by repeat (first | (with_reducible first | exact HB.out | apply below_alloc | apply pw_below_drewN | apply below_drew1 | refine below_set ?_ GE176.out) | exact HB.out)) hb)
          (try clear hb)
          (try clear hb2)
          (try clear hk)
          (try clear hi)
          refine ⟨_, rfl, s5_ BK176, fun hHeld => nm_ ?_⟩
          iterate 3 (refine pu_ HT_ ?_)
          refine dg_ HT_ ?_
          try go_wp2
          go_meet
          case rel => exact ⟨_, ((a0_2.toList != t182.toList)), (by first | rfl | (simp; done) | (simp [*]; done)), H', ⟨by have := HJ1.out; have := HJ15.out; first | omega | exact Nat.le_refl _⟩, ⟨by (with_reducible repeat (first | refine blk_drewN ?_ _ | refine blk_drew ?_ | refine blk_alloc ?_ _)); exact BK176.out⟩, ⟨by repeat (first | (with_reducible first | exact HB.out | apply below_alloc | apply pw_below_drewN | apply below_drew1 | refine below_set ?_ GE176.out) | exact HB.out)⟩⟩
         ·replace c30 := Bool.eq_false_iff.mpr c30
          subst c30
          have H1 : (tag_Check.j2 kj15 true a0_0 a0_1 a0_2 l0_3 l0_4) = some r := by rw [if_neg (show ¬ (false = true) by decide)] at H; exact H
          clear H
          have H := H1
          clear H1
          have H' := Aside0.mk H
          clear H
          try go_wp2
          replace BK176 := Aside0.mk (blk_drew BK176.out)
          replace HB := Aside0.mk (below_drew1 HB.out)
          refine st5_ 17 tag_Check.tab5 tag_Check.bits5 BK176 (fun hHeld HT_ HW_ => ?_)
          generalize wc.drew = w34 at BK176 HB hHeld ⊢
          iterate 6 (first | refine pu_ HT_ ?_ | refine tk_ HT_ HW_ hHeld ?_)
          refine cg_ 6 (bmp 17 7) (some 54) Tryz.func55 #[.string a0_2] HT_ ?_
          with_reducible refine (tag_region.calls kj15 a0_2 false _ A29.out).mono ?_
          rintro e w' ⟨rfl, ⟨nd, rfl⟩⟩
          refine ⟨_, rfl, s5_ BK176, fun hHeld => nm_ ?_⟩
          iterate 10 (first | refine sk_ HT_ ?_ | refine pu_ HT_ ?_)
          refine dg_ HT_ ?_
          try go_wp2
          go_meet
          case rel => exact ⟨_, (true), (by first | rfl | (simp; done) | (simp [*]; done)), H', ⟨by have := HJ1.out; have := HJ15.out; first | omega | exact Nat.le_refl _⟩, ⟨by (with_reducible repeat (first | refine blk_drewN ?_ _ | refine blk_drew ?_ | refine blk_alloc ?_ _)); exact BK176.out⟩, ⟨by repeat (first | (with_reducible first | exact HB.out | apply below_alloc | apply pw_below_drewN | apply below_drew1 | refine below_set ?_ GE176.out) | exact HB.out)⟩⟩
       case rest =>
        clear HC26
        obtain ⟨kq, x64_25, rfl, HA, HJ25, BK176, HB⟩ := hcut
        cases kq with
        | zero => exact absurd HA.out (by simp [tag_Check.j2])
        | succ kj25 =>
         have H := HA.out
         clear HA
         simp only [tag_Check.j2] at H
         by_cases c35 : x64_25 = true
         ·subst c35
          have H1 : (some 70) = some r := by rw [if_pos rfl] at H; exact H
          clear H
          have H := H1
          clear H1
          obtain rfl := Option.some.inj H
          go_wp2
          go_ret
          exact ⟨by first | rfl | (simp [errW_none, errW_some] <;> rfl) | (simp [*, errW_none, errW_some] <;> rfl), by repeat (first | (with_reducible first | exact HB.out | apply below_alloc | apply pw_below_drewN | apply below_drew1 | refine below_set ?_ GE176.out) | exact HB.out)⟩
         ·replace c35 := Bool.eq_false_iff.mpr c35
          subst c35
          have H1 : (if (l0_3.length : Int) > 64 then (some 5) else (tag_Check.l0 kj25 l0_3 (l0_3.length : Int) 0 a0_0 a0_1 a0_2 l0_3 l0_4)) = some r := by rw [if_neg (show ¬ (false = true) by decide)] at H; exact H
          clear H
          have H := H1
          clear H1
          by_cases c36 : (l0_3.length : Int) > 64
          ·rw [if_pos c36] at H
           have c36b0 : decide (64 < (l0_3.length : Int)) = true := decide_eq_true c36
           have c36b1 : decide (64 < l0_3.length) = true := decide_eq_true (by omega)
           clear c36
           obtain rfl := Option.some.inj H
           obtain ⟨hcz37_0, hcz37_1, hcz37_2, hcz37_3, hcz37_4, hfz37_0, hfz37_1, hfz37_2, hfz37_3, hfz37_4⟩ := c5_ BK176
           go_wp2
           go_ret
           exact ⟨by first | rfl | (simp [errW_none, errW_some] <;> rfl) | (simp [*, errW_none, errW_some] <;> rfl), by repeat (first | (with_reducible first | exact HB.out | apply below_alloc | apply pw_below_drewN | apply below_drew1 | refine below_set ?_ GE176.out) | exact HB.out)⟩
          ·rw [if_neg c36] at H
           have c36b0 : decide (64 < (l0_3.length : Int)) = false := decide_eq_false c36
           have c36b1 : decide (64 < l0_3.length) = false := decide_eq_false (by omega)
           clear c36
           have H' := Aside0.mk H
           clear H
           obtain ⟨hcz38_0, hcz38_1, hcz38_2, hcz38_3, hcz38_4, hfz38_0, hfz38_1, hfz38_2, hfz38_3, hfz38_4⟩ := c5_ BK176
           go_wp2
           go_loopg [72] kj25 (fun kq v72 w' => ∃ (x72_4 : Int), v72 = .int .i64 x72_4 ∧ Aside0 (tag_Check.l0 kq l0_3 (l0_3.length : Int) x72_4 a0_0 a0_1 a0_2 l0_3 l0_4 = some r) ∧ Aside0 (kq ≤ kj25) ∧ Aside0 (w'.heap[gb176]? = some (.cells #[.string a0_0, .string a0_1, .string a0_2, (.slice A0_3 l0_3.length c0_3), (.slice A0_4 l0_4.length c0_4)] 25 (0, 0))) ∧ Aside0 (Below w.heap.size w w'))
           case atStart => exact ⟨(0), (by first | rfl | (simp; done) | (simp [*]; done)), H', ⟨Nat.le_refl _⟩, ⟨by (with_reducible repeat (first | refine blk_drewN ?_ _ | refine blk_drew ?_ | refine blk_alloc ?_ _)); exact BK176.out⟩, ⟨by repeat (first | (with_reducible first | exact HB.out | apply below_alloc | apply pw_below_drewN | apply below_drew1 | refine below_set ?_ GE176.out) | exact HB.out)⟩⟩
           case round =>
            clear H'
            clear c36b0 c36b1 hcz38_0 hcz38_1 hcz38_2 hcz38_3 hcz38_4 hfz38_0 hfz38_1 hfz38_2 hfz38_3 hfz38_4
            obtain ⟨x72_4, rfl, HA, HK4, BK176, HB⟩ := hrel
            cases gk with
            | zero => exact absurd HA.out (by simp [tag_Check.l0])
            | succ k4 =>
             have H := HA.out
             clear HA
             simp only [tag_Check.l0] at H
             by_cases c39 : x72_4 < (l0_3.length : Int)
             ·rw [if_pos c39] at H
              have c39b0 : decide (x72_4 < (l0_3.length : Int)) = true := decide_eq_true c39
              clear c39
              by_cases c40 : 0 ≤ x72_4
              ·rw [if_pos c40] at H
               have c40b0 : decide (0 ≤ x72_4) = true := decide_eq_true c40
               clear c40
               by_cases c41 : x72_4 < (l0_3.length : Int)
               ·rw [if_pos c41] at H
                have c41b0 : decide (x72_4 < (l0_3.length : Int)) = true := decide_eq_true c41
                clear c41
                have HC42 := Aside0.mk H
                clear H
                have p183 : 0 ≤ (x72_4 : Int) := of_decide_eq_true (by first | (with_reducible assumption) | assumption)
                have q183 : x72_4 < (l0_3.length : Int) := of_decide_eq_true (by first | (with_reducible assumption) | assumption)
                obtain ⟨ad183, e183, hx183_0⟩ := Kd.at_string HR0_3.out x72_4 p183 q183
                cases e183
                replace hx183_0 := (HB.out.cell (World.block_lt_of_cell? w _ hx183_0)).trans hx183_0
                replace p183 := eq_true p183
                replace q183 := eq_true q183
                go_upto_region 12 with (fail)
                go_cut [85] (fun v85 wc => ∃ (kq : Nat) (x85_41 : Bool), v85 = .bool x85_41 ∧ Aside0 (tag_Check.j4 kq x72_4 (rdOf ByteArray.empty l0_3 x72_4) l0_3 (l0_3.length : Int) x72_4 x85_41 a0_0 a0_1 a0_2 l0_3 l0_4 = some r) ∧ Aside0 (kq ≤ k4) ∧ Aside0 (wc.heap[gb176]? = some (.cells #[.string a0_0, .string a0_1, .string a0_2, (.slice (some ad183) l0_3.length c0_3), (.slice A0_4 l0_4.length c0_4)] 25 (0, 0))) ∧ Aside0 (Below w.heap.size w wc))
                case first =>
                 have H := HC42.out
                 clear HC42
                 replace H := Option.bind_eq_some_iff.mp H
                 obtain ⟨t184, A430, H⟩ := H
                 try dsimp only at H
                 have A43 := Aside0.mk A430
                 clear A430
                 by_cases c44 : t184 = true
                 ·subst c44
                  have H1 : ((tag_lower.f (rdOf ByteArray.empty l0_3 x72_4)).bind fun t185 => (tag_Check.j4 k4 x72_4 (rdOf ByteArray.empty l0_3 x72_4) l0_3 (l0_3.length : Int) x72_4 ((rdOf ByteArray.empty l0_3 x72_4).toList != t185.toList) a0_0 a0_1 a0_2 l0_3 l0_4)) = some r := by rw [if_pos rfl] at H; exact H
                  clear H
                  have H := H1
                  clear H1
                  replace H := Option.bind_eq_some_iff.mp H
                  obtain ⟨t185, A450, H⟩ := H
                  try dsimp only at H
                  have A45 := Aside0.mk A450
                  clear A450
                  have H' := Aside0.mk H
                  clear H
                  go_wp2_with (first | ((with_reducible refine gate_callee (f := 57) rfl ?_); refine gb_ (some 78) Tryz.func57 #[.string (rdOf ByteArray.empty l0_3 x72_4)] ?_; (with_reducible refine (tag_variant.calls k4 (rdOf ByteArray.empty l0_3 x72_4) true _ A43.out).mono ?_); rintro e w' ⟨rfl, ⟨nd, rfl⟩⟩; refine ⟨_, rfl, ?_⟩) | (go_at_call 44; (with_reducible refine (tag_lower.calls (rdOf ByteArray.empty l0_3 x72_4) t185 _ A45.out).mono ?_); rintro e w46 ⟨rfl, hb⟩; replace BK176 := Aside0.mk (blk_below (g := gb176) (o := .cells #[.string a0_0, .string a0_1, .string a0_2, .slice (some ad183) l0_3.length c0_3, .slice A0_4 l0_4.length c0_4] 25 (0, 0)) (bk_ BK176) hb); replace HB := Aside0.mk (below_step (by repeat (first | (with_reducible first | exact HB.out | apply below_alloc | apply pw_below_drewN | apply below_drew1 | refine below_set ?_ GE176.out) | exact HB.out)) hb); try clear hb))
                  go_meet
                  case rel => exact ⟨_, (((rdOf ByteArray.empty l0_3 x72_4).toList != t185.toList)), (by first | rfl | (simp; done) | (simp [*]; done)), H', ⟨by have := HJ1.out; have := HJ15.out; have := HJ25.out; have := HK4.out; first | omega | exact Nat.le_refl _⟩, ⟨by (with_reducible repeat (first | refine blk_drewN ?_ _ | refine blk_drew ?_ | refine blk_alloc ?_ _)); exact BK176.out⟩, ⟨by repeat (first | (with_reducible first | exact HB.out | apply below_alloc | apply pw_below_drewN | apply below_drew1 | refine below_set ?_ GE176.out) | exact HB.out)⟩⟩
                 ·replace c44 := Bool.eq_false_iff.mpr c44
                  subst c44
                  have H1 : (tag_Check.j4 k4 x72_4 (rdOf ByteArray.empty l0_3 x72_4) l0_3 (l0_3.length : Int) x72_4 true a0_0 a0_1 a0_2 l0_3 l0_4) = some r := by rw [if_neg (show ¬ (false = true) by decide)] at H; exact H
                  clear H
                  have H := H1
                  clear H1
                  have H' := Aside0.mk H
                  clear H
                  go_wp2_with (first | ((with_reducible refine gate_callee (f := 57) rfl ?_); refine gb_ (some 78) Tryz.func57 #[.string (rdOf ByteArray.empty l0_3 x72_4)] ?_; (with_reducible refine (tag_variant.calls k4 (rdOf ByteArray.empty l0_3 x72_4) false _ A43.out).mono ?_); rintro e w' ⟨rfl, ⟨nd, rfl⟩⟩; refine ⟨_, rfl, ?_⟩))
                  go_meet
                  case rel => exact ⟨_, (true), (by first | rfl | (simp; done) | (simp [*]; done)), H', ⟨by have := HJ1.out; have := HJ15.out; have := HJ25.out; have := HK4.out; first | omega | exact Nat.le_refl _⟩, ⟨by (with_reducible repeat (first | refine blk_drewN ?_ _ | refine blk_drew ?_ | refine blk_alloc ?_ _)); exact BK176.out⟩, ⟨by repeat (first | (with_reducible first | exact HB.out | apply below_alloc | apply pw_below_drewN | apply below_drew1 | refine below_set ?_ GE176.out) | exact HB.out)⟩⟩
                case rest =>
                 clear HC42
                 clear c39b0 c40b0 c41b0 hx183_0 p183 q183
                 obtain ⟨kq, x85_41, rfl, HA, HJ41, BK176, HB⟩ := hcut
                 cases kq with
                 | zero => exact absurd HA.out (by simp [tag_Check.j4])
                 | succ kj41 =>
                  have H := HA.out
                  clear HA
                  simp only [tag_Check.j4] at H
                  by_cases c47 : x85_41 = true
                  ·subst c47
                   have H1 : (some 70) = some r := by rw [if_pos rfl] at H; exact H
                   clear H
                   have H := H1
                   clear H1
                   obtain rfl := Option.some.inj H
                   go_wp2
                   go_ret
                   exact ⟨by first | rfl | (simp [errW_none, errW_some] <;> rfl) | (simp [*, errW_none, errW_some] <;> rfl), by repeat (first | (with_reducible first | exact HB.out | apply below_alloc | apply pw_below_drewN | apply below_drew1 | refine below_set ?_ GE176.out) | exact HB.out)⟩
                  ·replace c47 := Bool.eq_false_iff.mpr c47
                   subst c47
                   have H1 : (if x72_4 > 0 then (if 0 ≤ (wrap64 (x72_4 - 1)) then (if (wrap64 (x72_4 - 1)) < (l0_3.length : Int) then ((tag_rising.f (rdOf ByteArray.empty l0_3 (wrap64 (x72_4 - 1))) (rdOf ByteArray.empty l0_3 x72_4)).bind fun t187 => (if t187 = 0 then (tag_Check.l0 kj41 l0_3 (l0_3.length : Int) (wrap64 (x72_4 + 1)) a0_0 a0_1 a0_2 l0_3 l0_4) else (some t187))) else (none)) else (none)) else (tag_Check.l0 kj41 l0_3 (l0_3.length : Int) (wrap64 (x72_4 + 1)) a0_0 a0_1 a0_2 l0_3 l0_4)) = some r := by rw [if_neg (show ¬ (false = true) by decide)] at H; exact H
                   clear H
                   have H := H1
                   clear H1
                   by_cases c48 : x72_4 > 0
                   ·rw [if_pos c48] at H
                    have c48b0 : decide (0 < x72_4) = true := decide_eq_true c48
                    clear c48
                    obtain ⟨ji49, hji49⟩ : ∃ j_ : Int, (wrap64 (x72_4 - 1)) = j_ := ⟨_, rfl⟩
                    replace H : (if 0 ≤ (ji49) then (if (ji49) < (l0_3.length : Int) then ((tag_rising.f (rdOf ByteArray.empty l0_3 (ji49)) (rdOf ByteArray.empty l0_3 x72_4)).bind fun t187 => (if t187 = 0 then (tag_Check.l0 kj41 l0_3 (l0_3.length : Int) (wrap64 (x72_4 + 1)) a0_0 a0_1 a0_2 l0_3 l0_4) else (some t187))) else (none)) else (none)) = some r := by first | (rw [hji49] at H; exact H) | (simp only [hji49] at H ⊢; exact H)
                    have hji49w : (IntKind.i64.wrap (x72_4 - 1)) = ji49 := (i64_w _).trans hji49
                    by_cases c50 : 0 ≤ (ji49)
                    ·rw [if_pos c50] at H
                     have c50b0 : decide (0 ≤ (ji49)) = true := decide_eq_true c50
                     clear c50
                     by_cases c51 : (ji49) < (l0_3.length : Int)
                     ·rw [if_pos c51] at H
                      have c51b0 : decide ((ji49) < (l0_3.length : Int)) = true := decide_eq_true c51
                      clear c51
                      replace H := Option.bind_eq_some_iff.mp H
                      obtain ⟨t187, A520, H⟩ := H
                      try dsimp only at H
                      have A52 := Aside0.mk A520
                      clear A520
                      by_cases c53 : t187 = 0
                      ·rw [if_pos c53] at H
                       have c53b0 : (t187 == 0) = true := beq_iff_eq.mpr c53
                       have c53b1 : (t187 != 0) = false := bne_eq_false_iff_eq.mpr c53
                       clear c53
                       have H' := Aside0.mk H
                       clear H
                       obtain ⟨hcz54_0, hcz54_1, hcz54_2, hcz54_3, hcz54_4, hfz54_0, hfz54_1, hfz54_2, hfz54_3, hfz54_4⟩ := c5_ BK176
                       have p186 : 0 ≤ ((ji49) : Int) := of_decide_eq_true (by first | (with_reducible assumption) | assumption)
                       have q186 : (ji49) < (l0_3.length : Int) := of_decide_eq_true (by first | (with_reducible assumption) | assumption)
                       obtain ⟨ad186, e186, hx186_0⟩ := Kd.at_string HR0_3.out (ji49) p186 q186
                       obtain rfl : ad183 = ad186 := (by injection e186)
                       replace hx186_0 := (HB.out.cell (World.block_lt_of_cell? w _ hx186_0)).trans hx186_0
                       replace p186 := eq_true p186
                       replace q186 := eq_true q186
                       go_wp2_with (first | ((with_reducible refine gate_callee (f := 58) rfl ?_); refine goesL_ (some 95) rfl rfl Tryz.func58 (by kernel_rfl) rfl #[.string (rdOf ByteArray.empty l0_3 (ji49)), .string (rdOf ByteArray.empty l0_3 x72_4)] rfl (by (try simp only [List.map_toArray, List.map_cons, List.map_nil]); first | done | (simp only [hji49]; rfl) | rfl | (simp only [List.length_drop, List.length_take]; rfl)) ?_; (with_reducible refine (tag_rising.calls (rdOf ByteArray.empty l0_3 (ji49)) (rdOf ByteArray.empty l0_3 x72_4) t187 _ A52.out).mono ?_); rintro e w' ⟨rfl, ⟨nd, rfl⟩⟩; refine ⟨_, rfl, ?_⟩))
                       go_roundg kj41
                       case measure => have := HJ1.out; have := HJ15.out; have := HJ25.out; have := HK4.out; have := HJ41.out; omega
                       case rel => exact ⟨(wrap64 (x72_4 + 1)), (by first | rfl | (simp; done) | (simp [*]; done)), H', ⟨by have := HJ1.out; have := HJ15.out; have := HJ25.out; have := HK4.out; have := HJ41.out; omega⟩, ⟨by (with_reducible repeat (first | refine blk_drewN ?_ _ | refine blk_drew ?_ | refine blk_alloc ?_ _)); exact BK176.out⟩, ⟨by repeat (first | (with_reducible first | exact HB.out | apply below_alloc | apply pw_below_drewN | apply below_drew1 | refine below_set ?_ GE176.out) | exact HB.out)⟩⟩
                      ·rw [if_neg c53] at H
                       have c53b0 : (t187 == 0) = false := beq_eq_false_iff_ne.mpr c53
                       have c53b1 : (t187 != 0) = true := bne_iff_ne.mpr c53
                       obtain rfl := Option.some.inj H
                       obtain ⟨hcz55_0, hcz55_1, hcz55_2, hcz55_3, hcz55_4, hfz55_0, hfz55_1, hfz55_2, hfz55_3, hfz55_4⟩ := c5_ BK176
                       have p186 : 0 ≤ ((ji49) : Int) := of_decide_eq_true (by first | (with_reducible assumption) | assumption)
                       have q186 : (ji49) < (l0_3.length : Int) := of_decide_eq_true (by first | (with_reducible assumption) | assumption)
                       obtain ⟨ad186, e186, hx186_0⟩ := Kd.at_string HR0_3.out (ji49) p186 q186
                       obtain rfl : ad183 = ad186 := (by injection e186)
                       replace hx186_0 := (HB.out.cell (World.block_lt_of_cell? w _ hx186_0)).trans hx186_0
                       replace p186 := eq_true p186
                       replace q186 := eq_true q186
                       go_wp2_with (first | ((with_reducible refine gate_callee (f := 58) rfl ?_); refine goesL_ (some 95) rfl rfl Tryz.func58 (by kernel_rfl) rfl #[.string (rdOf ByteArray.empty l0_3 (ji49)), .string (rdOf ByteArray.empty l0_3 x72_4)] rfl (by (try simp only [List.map_toArray, List.map_cons, List.map_nil]); first | done | (simp only [hji49]; rfl) | rfl | (simp only [List.length_drop, List.length_take]; rfl)) ?_; (with_reducible refine (tag_rising.calls (rdOf ByteArray.empty l0_3 (ji49)) (rdOf ByteArray.empty l0_3 x72_4) t187 _ A52.out).mono ?_); rintro e w' ⟨rfl, ⟨nd, rfl⟩⟩; refine ⟨_, rfl, ?_⟩))
                       go_ret
                       exact ⟨by first | rfl | (simp [errW_none, errW_some] <;> rfl) | (simp only [← hji49]; first | rfl | (simp [errW_none, errW_some] <;> rfl)) | (simp [*, errW_none, errW_some] <;> rfl), by repeat (first | (with_reducible first | exact HB.out | apply below_alloc | apply pw_below_drewN | apply below_drew1 | refine below_set ?_ GE176.out) | exact HB.out)⟩
                     ·rw [if_neg c51] at H
                      exact absurd H (by simp)
                    ·rw [if_neg c50] at H
                     exact absurd H (by simp)
                   ·rw [if_neg c48] at H
                    have c48b0 : decide (0 < x72_4) = false := decide_eq_false c48
                    clear c48
                    have H' := Aside0.mk H
                    clear H
                    go_wp2
                    go_roundg kj41
                    case measure => have := HJ1.out; have := HJ15.out; have := HJ25.out; have := HK4.out; have := HJ41.out; omega
                    case rel => exact ⟨(wrap64 (x72_4 + 1)), (by first | rfl | (simp; done) | (simp [*]; done)), H', ⟨by have := HJ1.out; have := HJ15.out; have := HJ25.out; have := HK4.out; have := HJ41.out; omega⟩, ⟨by (with_reducible repeat (first | refine blk_drewN ?_ _ | refine blk_drew ?_ | refine blk_alloc ?_ _)); exact BK176.out⟩, ⟨by repeat (first | (with_reducible first | exact HB.out | apply below_alloc | apply pw_below_drewN | apply below_drew1 | refine below_set ?_ GE176.out) | exact HB.out)⟩⟩
               ·rw [if_neg c41] at H
                exact absurd H (by simp)
              ·rw [if_neg c40] at H
               exact absurd H (by simp)
             ·rw [if_neg c39] at H
              have c39b0 : decide (x72_4 < (l0_3.length : Int)) = false := decide_eq_false c39
              clear c39
              by_cases c56 : (l0_4.length : Int) > 64
              ·rw [if_pos c56] at H
               have c56b0 : decide (64 < (l0_4.length : Int)) = true := decide_eq_true c56
               have c56b1 : decide (64 < l0_4.length) = true := decide_eq_true (by omega)
               clear c56
               obtain rfl := Option.some.inj H
               obtain ⟨hcz57_0, hcz57_1, hcz57_2, hcz57_3, hcz57_4, hfz57_0, hfz57_1, hfz57_2, hfz57_3, hfz57_4⟩ := c5_ BK176
               go_wp2
               go_ret
               exact ⟨by first | rfl | (simp [errW_none, errW_some] <;> rfl) | (simp [*, errW_none, errW_some] <;> rfl), by repeat (first | (with_reducible first | exact HB.out | apply below_alloc | apply pw_below_drewN | apply below_drew1 | refine below_set ?_ GE176.out) | exact HB.out)⟩
              ·rw [if_neg c56] at H
               have c56b0 : decide (64 < (l0_4.length : Int)) = false := decide_eq_false c56
               have c56b1 : decide (64 < l0_4.length) = false := decide_eq_false (by omega)
               clear c56
               have H' := Aside0.mk H
               clear H
               obtain ⟨hcz58_0, hcz58_1, hcz58_2, hcz58_3, hcz58_4, hfz58_0, hfz58_1, hfz58_2, hfz58_3, hfz58_4⟩ := c5_ BK176
               go_wp2
               go_loopg [107] k4 (fun kq v107 w' => ∃ (x107_5 : Int), v107 = .int .i64 x107_5 ∧ Aside0 (tag_Check.l1 kq l0_4 (l0_4.length : Int) x107_5 a0_0 a0_1 a0_2 l0_3 l0_4 = some r) ∧ Aside0 (kq ≤ k4) ∧ Aside0 (w'.heap[gb176]? = some (.cells #[.string a0_0, .string a0_1, .string a0_2, (.slice A0_3 l0_3.length c0_3), (.slice A0_4 l0_4.length c0_4)] 25 (0, 0))) ∧ Aside0 (Below w.heap.size w w'))
               case atStart => exact ⟨(0), (by first | rfl | (simp; done) | (simp [*]; done)), H', ⟨Nat.le_refl _⟩, ⟨by (with_reducible repeat (first | refine blk_drewN ?_ _ | refine blk_drew ?_ | refine blk_alloc ?_ _)); exact BK176.out⟩, ⟨by repeat (first | (with_reducible first | exact HB.out | apply below_alloc | apply pw_below_drewN | apply below_drew1 | refine below_set ?_ GE176.out) | exact HB.out)⟩⟩
               case round =>
                clear H'
                clear c39b0 c56b0 c56b1 hcz58_0 hcz58_1 hcz58_2 hcz58_3 hcz58_4 hfz58_0 hfz58_1 hfz58_2 hfz58_3 hfz58_4
                obtain ⟨x107_5, rfl, HA, HK5, BK176, HB⟩ := hrel
                cases gk with
                | zero => exact absurd HA.out (by simp [tag_Check.l1])
                | succ k5 =>
                 have H := HA.out
                 clear HA
                 simp only [tag_Check.l1] at H
                 by_cases c59 : x107_5 < (l0_4.length : Int)
                 ·rw [if_pos c59] at H
                  have c59b0 : decide (x107_5 < (l0_4.length : Int)) = true := decide_eq_true c59
                  clear c59
                  by_cases c60 : 0 ≤ x107_5
                  ·rw [if_pos c60] at H
                   have c60b0 : decide (0 ≤ x107_5) = true := decide_eq_true c60
                   clear c60
                   by_cases c61 : x107_5 < (l0_4.length : Int)
                   ·rw [if_pos c61] at H
                    have c61b0 : decide (x107_5 < (l0_4.length : Int)) = true := decide_eq_true c61
                    clear c61
                    have HC62 := Aside0.mk H
                    clear H
                    have p188 : 0 ≤ (x107_5 : Int) := of_decide_eq_true (by first | (with_reducible assumption) | assumption)
                    have q188 : x107_5 < (l0_4.length : Int) := of_decide_eq_true (by first | (with_reducible assumption) | assumption)
                    obtain ⟨ad188, e188, hx188_0, hx188_1⟩ := at_T39 HR0_4.out x107_5 p188 q188
                    cases e188
                    replace hx188_0 := (HB.out.cell (World.block_lt_of_cell? w _ hx188_0)).trans hx188_0
                    replace hx188_1 := (HB.out.cell (World.block_lt_of_cell? w _ hx188_1)).trans hx188_1
                    replace p188 := eq_true p188
                    replace q188 := eq_true q188
                    go_upto_region 24 with (first | (refine bx_ 7 #[.string (⟨#[]⟩ : ByteArray), .string (⟨#[]⟩ : ByteArray)] 39 ?_; intro gb189 hg w63 hbox hb; have BK189 := Aside0.mk (hbox); have GW189 := Aside0.mk ((by rw [hg]; exact (below_size (by repeat (first | (with_reducible first | exact HB.out | apply below_alloc | apply pw_below_drewN | apply below_drew1 | refine below_set ?_ GE176.out) | exact HB.out))) : w.heap.size ≤ gb189)); have GE189 := Aside0.mk ((by rw [hg]; exact (below_size (by repeat (first | (with_reducible first | exact HB.out | apply below_alloc | apply pw_below_drewN | apply below_drew1 | refine below_set ?_ GE176.out) | exact HB.out))) : w.heap.size ≤ gb189)); replace HB := Aside0.mk (below_step (by repeat (first | (with_reducible first | exact HB.out | apply below_alloc | apply pw_below_drewN | apply below_drew1 | refine below_set ?_ GE176.out) | exact HB.out)) hb); have NB176_189 := Aside0.mk ((by rw [hg]; exact Nat.ne_of_lt (blk_lt (g := gb176) (o := .cells #[.string a0_0, .string a0_1, .string a0_2, .slice A0_3 l0_3.length c0_3, .slice (some ad188) l0_4.length c0_4] 25 (0, 0)) (bk_ BK176)) : gb176 ≠ gb189)); have NB189_176 := Aside0.mk ((by rw [hg]; exact Nat.ne_of_gt (blk_lt (g := gb176) (o := .cells #[.string a0_0, .string a0_1, .string a0_2, .slice A0_3 l0_3.length c0_3, .slice (some ad188) l0_4.length c0_4] 25 (0, 0)) (bk_ BK176)) : gb189 ≠ gb176)); replace BK176 := Aside0.mk (blk_below (g := gb176) (o := .cells #[.string a0_0, .string a0_1, .string a0_2, .slice A0_3 l0_3.length c0_3, .slice (some ad188) l0_4.length c0_4] 25 (0, 0)) (bk_ BK176) hb); clear hb hbox hg; have hnb64 := NB189_176.out; have hnc64 := NB176_189.out; have hcz65_0 : w63.cell? ⟨gb189, 0, none⟩ = some (.string (⟨#[]⟩ : ByteArray)) := (blk_cell BK189.out 0).trans rfl; have hcz65_1 : w63.cell? ⟨gb189, 1, none⟩ = some (.string (⟨#[]⟩ : ByteArray)) := (blk_cell BK189.out 1).trans rfl; have hfz65_0 := blk_frozen BK189.out 0; have hfz65_1 := blk_frozen BK189.out 1))
                    (try simp only [Act.put, List.setIfInBounds_toArray, List.set_cons_zero, List.set_cons_succ])
                    go_cut [129] (fun v129 wc => ∃ (kq : Nat) (x129_61 : Bool), v129 = .bool x129_61 ∧ Aside0 (tag_Check.j6 kq x107_5 l0_4 (l0_4.length : Int) x107_5 x129_61 a0_0 a0_1 a0_2 l0_3 l0_4 ((rd_T39 l0_4 x107_5).f0) ((rd_T39 l0_4 x107_5).f1) = some r) ∧ Aside0 (kq ≤ k5) ∧ Aside0 (wc.heap[gb176]? = some (.cells #[.string a0_0, .string a0_1, .string a0_2, (.slice A0_3 l0_3.length c0_3), (.slice (some ad188) l0_4.length c0_4)] 25 (0, 0))) ∧ Aside0 (wc.heap[gb189]? = some (.cells #[.string ((rd_T39 l0_4 x107_5).f0), .string ((rd_T39 l0_4 x107_5).f1)] 39 (0, 0))) ∧ Aside0 (Below w.heap.size w wc))
                    case first =>
                     have H := HC62.out
                     clear HC62
                     replace H := Option.bind_eq_some_iff.mp H
                     obtain ⟨t190, A660, H⟩ := H
                     try dsimp only at H
                     have A66 := Aside0.mk A660
                     clear A660
                     by_cases c67 : t190 = true
                     ·subst c67
                      have H1 : ((tag_lower.f ((rd_T39 l0_4 x107_5).f0)).bind fun t191 => (if ((rd_T39 l0_4 x107_5).f0).toList = t191.toList then ((tag_valued.f k5 ((rd_T39 l0_4 x107_5).f1)).bind fun t192 => (tag_Check.j6 k5 x107_5 l0_4 (l0_4.length : Int) x107_5 (!t192) a0_0 a0_1 a0_2 l0_3 l0_4 ((rd_T39 l0_4 x107_5).f0) ((rd_T39 l0_4 x107_5).f1))) else (tag_Check.j6 k5 x107_5 l0_4 (l0_4.length : Int) x107_5 true a0_0 a0_1 a0_2 l0_3 l0_4 ((rd_T39 l0_4 x107_5).f0) ((rd_T39 l0_4 x107_5).f1)))) = some r := by rw [if_pos rfl] at H; exact H
                      clear H
                      have H := H1
                      clear H1
                      replace H := Option.bind_eq_some_iff.mp H
                      obtain ⟨t191, A680, H⟩ := H
                      try dsimp only at H
                      have A68 := Aside0.mk A680
                      clear A680
                      by_cases c69 : ((rd_T39 l0_4 x107_5).f0).toList = t191.toList
                      ·rw [if_pos c69] at H
                       have c69b0 : (((rd_T39 l0_4 x107_5).f0).toList == t191.toList) = true := beq_iff_eq.mpr c69
                       have c69b1 : (((rd_T39 l0_4 x107_5).f0).toList != t191.toList) = false := bne_eq_false_iff_eq.mpr c69
                       clear c69
                       (first | rw [c69b0] | rw [c69b1] | rw [c69b2] | (simp only [i64_w, i32_w]; rw [c69b0]) | skip)
                       (try simp only [Bool.not_true, Bool.not_false])
                       replace H := Option.bind_eq_some_iff.mp H
                       obtain ⟨t192, A700, H⟩ := H
                       try dsimp only at H
                       have A70 := Aside0.mk A700
                       clear A700
                       have H' := Aside0.mk H
                       clear H
                       try go_wp2
                       have n0_ : Aside0 (((w63.setCell ⟨gb189, 0, none⟩ (.string ((rd_T39 l0_4 x107_5).f0))).setCell ⟨gb189, 1, none⟩ (.string ((rd_T39 l0_4 x107_5).f1))).heap[gb176]? = some (.cells #[.string a0_0, .string a0_1, .string a0_2, .slice A0_3 l0_3.length c0_3, .slice (some ad188) l0_4.length c0_4] 25 (0, 0))) := ⟨by (with_reducible repeat (first | refine blk_drewN ?_ _ | refine blk_drew ?_ | refine blk_alloc ?_ _)); refine blk_far ?_ NB176_189.out _; (with_reducible repeat (first | refine blk_drewN ?_ _ | refine blk_drew ?_ | refine blk_alloc ?_ _)); refine blk_far ?_ NB176_189.out _; (with_reducible repeat (first | refine blk_drewN ?_ _ | refine blk_drew ?_ | refine blk_alloc ?_ _)); exact BK176.out⟩
                       have n1_ : Aside0 (((w63.setCell ⟨gb189, 0, none⟩ (.string ((rd_T39 l0_4 x107_5).f0))).setCell ⟨gb189, 1, none⟩ (.string ((rd_T39 l0_4 x107_5).f1))).heap[gb189]? = some (.cells #[.string ((rd_T39 l0_4 x107_5).f0), .string ((rd_T39 l0_4 x107_5).f1)] 39 (0, 0))) := ⟨by (with_reducible repeat (first | refine blk_drewN ?_ _ | refine blk_drew ?_ | refine blk_alloc ?_ _)); refine blk_put (cs := #[.string ((rd_T39 l0_4 x107_5).f0), .string (⟨#[]⟩ : ByteArray)]) ?_ 1 _ rfl; (with_reducible repeat (first | refine blk_drewN ?_ _ | refine blk_drew ?_ | refine blk_alloc ?_ _)); refine blk_put (cs := #[.string (⟨#[]⟩ : ByteArray), .string (⟨#[]⟩ : ByteArray)]) ?_ 0 _ rfl; (with_reducible repeat (first | refine blk_drewN ?_ _ | refine blk_drew ?_ | refine blk_alloc ?_ _)); exact BK189.out⟩
                       have n2_ : Aside0 (Below w.heap.size w ((w63.setCell ⟨gb189, 0, none⟩ (.string ((rd_T39 l0_4 x107_5).f0))).setCell ⟨gb189, 1, none⟩ (.string ((rd_T39 l0_4 x107_5).f1)))) := ⟨by repeat (first | (with_reducible first | exact HB.out | apply below_alloc | apply pw_below_drewN | apply below_drew1 | refine below_set ?_ GE176.out | refine below_set ?_ GE189.out) | exact HB.out)⟩
                       (try clear BK176)
                       (try clear BK189)
                       (try clear HB)
                       generalize ((w63.setCell ⟨gb189, 0, none⟩ (.string ((rd_T39 l0_4 x107_5).f0))).setCell ⟨gb189, 1, none⟩ (.string ((rd_T39 l0_4 x107_5).f1))) = w71 at n0_ n1_ n2_ ⊢
                       have BK176 := n0_
                       have BK189 := n1_
                       have HB := n2_
                       clear n0_ n1_ n2_
                       replace BK176 := Aside0.mk (blk_drew BK176.out)
                       replace BK189 := Aside0.mk (blk_drew BK189.out)
                       replace HB := Aside0.mk (below_drew1 HB.out)
                       refine start_ (n := 18) (S := fun w' => w'.cell? ⟨gb189, 0, none⟩ = some (.string ((rd_T39 l0_4 x107_5).f0)) ∧ w'.cell? ⟨gb189, 1, none⟩ = some (.string ((rd_T39 l0_4 x107_5).f1))) (ds := []) (bmp 18 0) (by kernel_rfl) rfl rfl ⟨(blk_cell BK189.out 0).trans rfl, (blk_cell BK189.out 1).trans rfl⟩ (fun hHeld => ?_); refine with_tabW tag_Check.tab24 tag_Check.bits24 (fun HT_ HW_ => ?_)
                       generalize w71.drew = w72 at BK176 BK189 HB hHeld ⊢
                       iterate 2 (first | refine pu_ HT_ ?_ | refine tk_ HT_ HW_ hHeld ?_)
                       refine one_ (i := 2) (N := some 114) (bmp 18 3) rfl rfl (one_of HT_.out (by kernel_rfl)) (by decide) (fun K hK => ?_)
                       refine goes_ Tryz.func59 (by kernel_rfl) rfl #[.string ((rd_T39 l0_4 x107_5).f0), .int .i64 2, .int .i64 2] (by rfl) rfl rfl (by (try simp only [List.map_toArray, List.map_cons, List.map_nil]); first | done | rfl | (simp only [List.length_drop, List.length_take]; rfl)) ?_
                       with_reducible refine (tag_signs.calls k5 ((rd_T39 l0_4 x107_5).f0) 2 2 true _ A66.out).mono ?_
                       rintro e w' ⟨rfl, ⟨nd, rfl⟩⟩
                       refine ⟨_, rfl, ?_⟩
                       refine hK.out _ _ ⟨(blk_cell BK189.out 0).trans rfl, (blk_cell BK189.out 1).trans rfl⟩ (fun hHeld => ?_)
                       clear hK K
                       refine norm_ (a' := ?_) ?_ ?_
                       rotate_left
                       ·show Act.put _ (some 114) _ = _
                        simp only [Act.put, List.setIfInBounds_toArray, List.set_cons_zero, List.set_cons_succ, i64_w, i32_w]
                        rfl
                       iterate 3 (refine pu_ HT_ ?_)
                       refine pg_ 7 (bm 18 191) HT_ ?_
                       refine tg_ 6 (bmp 18 8) HT_ HW_ hHeld ?_
                       refine tk_ HT_ HW_ hHeld ?_
                       refine one_ (i := 9) (N := some 121) (bmp 18 10) rfl rfl (one_of HT_.out (by kernel_rfl)) (by decide) (fun K hK => ?_)
                       refine goes_ Tryz.func44 (by kernel_rfl) rfl #[.string ((rd_T39 l0_4 x107_5).f0)] (by rfl) rfl rfl (by (try simp only [List.map_toArray, List.map_cons, List.map_nil]); first | done | rfl | (simp only [List.length_drop, List.length_take]; rfl)) ?_
                       with_reducible refine (tag_lower.calls ((rd_T39 l0_4 x107_5).f0) t191 _ A68.out).mono ?_
                       rintro e w73 ⟨rfl, hb⟩
                       refine ⟨_, rfl, ?_⟩
                       replace BK176 := Aside0.mk (blk_below (g := gb176) (o := .cells #[.string a0_0, .string a0_1, .string a0_2, .slice A0_3 l0_3.length c0_3, .slice (some ad188) l0_4.length c0_4] 25 (0, 0)) (bk_ BK176) hb)
                       replace BK189 := Aside0.mk (blk_below (g := gb189) (o := .cells #[.string ((rd_T39 l0_4 x107_5).f0), .string ((rd_T39 l0_4 x107_5).f1)] 39 (0, 0)) (bk_ BK189) hb)
                       replace HB := Aside0.mk (below_step (by repeat (first | (with_reducible first | exact HB.out | apply below_alloc | apply pw_below_drewN | apply below_drew1 | refine below_set ?_ GE176.out | refine below_set ?_ GE189.out) | exact HB.out)) hb)
                       (try clear hb)
                       (try clear hb2)
                       (try clear hk)
                       (try clear hi)
                       refine hK.out _ _ ⟨(blk_cell BK189.out 0).trans rfl, (blk_cell BK189.out 1).trans rfl⟩ (fun hHeld => ?_)
                       clear hK K
                       refine norm_ (a' := ?_) ?_ ?_
                       rotate_left
                       ·show Act.put _ (some 121) _ = _
                        simp only [Act.put, List.setIfInBounds_toArray, List.set_cons_zero, List.set_cons_succ, i64_w, i32_w]
                        rfl
                       iterate 5 (first | refine pu_ HT_ ?_ | refine tk_ HT_ HW_ hHeld ?_)
                       refine one_ (i := 15) (N := some 127) (bmp 18 16) rfl rfl (one_of HT_.out (by kernel_rfl)) (by decide) (fun K hK => ?_)
                       refine goes_ Tryz.func60 (by kernel_rfl) rfl #[.string ((rd_T39 l0_4 x107_5).f1)] (by rfl) rfl rfl (by (try simp only [List.map_toArray, List.map_cons, List.map_nil]); first | done | rfl | (simp only [List.length_drop, List.length_take]; rfl)) ?_
                       with_reducible refine (tag_valued.calls k5 ((rd_T39 l0_4 x107_5).f1) t192 _ (Tbl.below HT.out (by repeat (first | (with_reducible first | exact HB.out | apply below_alloc | apply pw_below_drewN | apply below_drew1 | refine below_set ?_ GE176.out | refine below_set ?_ GE189.out) | exact HB.out))) A70.out).mono ?_
                       rintro e w74 ⟨rfl, hb⟩
                       refine ⟨_, rfl, ?_⟩
                       replace BK176 := Aside0.mk (blk_below (g := gb176) (o := .cells #[.string a0_0, .string a0_1, .string a0_2, .slice A0_3 l0_3.length c0_3, .slice (some ad188) l0_4.length c0_4] 25 (0, 0)) (bk_ BK176) hb)
                       replace BK189 := Aside0.mk (blk_below (g := gb189) (o := .cells #[.string ((rd_T39 l0_4 x107_5).f0), .string ((rd_T39 l0_4 x107_5).f1)] 39 (0, 0)) (bk_ BK189) hb)
                       replace HB := Aside0.mk (below_step (by repeat (first | (with_reducible first | exact HB.out | apply below_alloc | apply pw_below_drewN | apply below_drew1 | refine below_set ?_ GE176.out | refine below_set ?_ GE189.out) | exact HB.out)) hb)
                       (try clear hb)
                       (try clear hb2)
                       (try clear hk)
                       (try clear hi)
                       refine hK.out _ _ ⟨(blk_cell BK189.out 0).trans rfl, (blk_cell BK189.out 1).trans rfl⟩ (fun hHeld => ?_)
                       clear hK K
                       refine norm_ (a' := ?_) ?_ ?_
                       rotate_left
                       ·show Act.put _ (some 127) _ = _
                        simp only [Act.put, List.setIfInBounds_toArray, List.set_cons_zero, List.set_cons_succ, i64_w, i32_w]
                        rfl
                       iterate 2 (refine pu_ HT_ ?_)
                       refine dg_ HT_ ?_
                       try go_wp2
                       go_meet
                       case rel => exact ⟨_, (!t192), (by first | rfl | (simp; done) | (simp [*]; done)), H', ⟨by have := HJ1.out; have := HJ15.out; have := HJ25.out; have := HK4.out; have := HK5.out; first | omega | exact Nat.le_refl _⟩, ⟨by (with_reducible repeat (first | refine blk_drewN ?_ _ | refine blk_drew ?_ | refine blk_alloc ?_ _)); exact BK176.out⟩, ⟨by (with_reducible repeat (first | refine blk_drewN ?_ _ | refine blk_drew ?_ | refine blk_alloc ?_ _)); exact BK189.out⟩, ⟨by repeat (first | (with_reducible first | exact HB.out | apply below_alloc | apply pw_below_drewN | apply below_drew1 | refine below_set ?_ GE176.out | refine below_set ?_ GE189.out) | exact HB.out)⟩⟩
                      ·rw [if_neg c69] at H
                       have c69b0 : (((rd_T39 l0_4 x107_5).f0).toList == t191.toList) = false := beq_eq_false_iff_ne.mpr c69
                       have c69b1 : (((rd_T39 l0_4 x107_5).f0).toList != t191.toList) = true := bne_iff_ne.mpr c69
                       (first | rw [c69b0] | rw [c69b1] | rw [c69b2] | (simp only [i64_w, i32_w]; rw [c69b0]) | skip)
                       (try simp only [Bool.not_true, Bool.not_false])
                       have H' := Aside0.mk H
                       clear H
                       try go_wp2
                       have n0_ : Aside0 (((w63.setCell ⟨gb189, 0, none⟩ (.string ((rd_T39 l0_4 x107_5).f0))).setCell ⟨gb189, 1, none⟩ (.string ((rd_T39 l0_4 x107_5).f1))).heap[gb176]? = some (.cells #[.string a0_0, .string a0_1, .string a0_2, .slice A0_3 l0_3.length c0_3, .slice (some ad188) l0_4.length c0_4] 25 (0, 0))) := ⟨by (with_reducible repeat (first | refine blk_drewN ?_ _ | refine blk_drew ?_ | refine blk_alloc ?_ _)); refine blk_far ?_ NB176_189.out _; (with_reducible repeat (first | refine blk_drewN ?_ _ | refine blk_drew ?_ | refine blk_alloc ?_ _)); refine blk_far ?_ NB176_189.out _; (with_reducible repeat (first | refine blk_drewN ?_ _ | refine blk_drew ?_ | refine blk_alloc ?_ _)); exact BK176.out⟩
                       have n1_ : Aside0 (((w63.setCell ⟨gb189, 0, none⟩ (.string ((rd_T39 l0_4 x107_5).f0))).setCell ⟨gb189, 1, none⟩ (.string ((rd_T39 l0_4 x107_5).f1))).heap[gb189]? = some (.cells #[.string ((rd_T39 l0_4 x107_5).f0), .string ((rd_T39 l0_4 x107_5).f1)] 39 (0, 0))) := ⟨by (with_reducible repeat (first | refine blk_drewN ?_ _ | refine blk_drew ?_ | refine blk_alloc ?_ _)); refine blk_put (cs := #[.string ((rd_T39 l0_4 x107_5).f0), .string (⟨#[]⟩ : ByteArray)]) ?_ 1 _ rfl; (with_reducible repeat (first | refine blk_drewN ?_ _ | refine blk_drew ?_ | refine blk_alloc ?_ _)); refine blk_put (cs := #[.string (⟨#[]⟩ : ByteArray), .string (⟨#[]⟩ : ByteArray)]) ?_ 0 _ rfl; (with_reducible repeat (first | refine blk_drewN ?_ _ | refine blk_drew ?_ | refine blk_alloc ?_ _)); exact BK189.out⟩
                       have n2_ : Aside0 (Below w.heap.size w ((w63.setCell ⟨gb189, 0, none⟩ (.string ((rd_T39 l0_4 x107_5).f0))).setCell ⟨gb189, 1, none⟩ (.string ((rd_T39 l0_4 x107_5).f1)))) := ⟨by repeat (first | (with_reducible first | exact HB.out | apply below_alloc | apply pw_below_drewN | apply below_drew1 | refine below_set ?_ GE176.out | refine below_set ?_ GE189.out) | exact HB.out)⟩
                       (try clear BK176)
                       (try clear BK189)
                       (try clear HB)
                       generalize ((w63.setCell ⟨gb189, 0, none⟩ (.string ((rd_T39 l0_4 x107_5).f0))).setCell ⟨gb189, 1, none⟩ (.string ((rd_T39 l0_4 x107_5).f1))) = w75 at n0_ n1_ n2_ ⊢
                       have BK176 := n0_
                       have BK189 := n1_
                       have HB := n2_
                       clear n0_ n1_ n2_
                       replace BK176 := Aside0.mk (blk_drew BK176.out)
                       replace BK189 := Aside0.mk (blk_drew BK189.out)
                       replace HB := Aside0.mk (below_drew1 HB.out)
                       refine start_ (n := 18) (S := fun w' => w'.cell? ⟨gb189, 0, none⟩ = some (.string ((rd_T39 l0_4 x107_5).f0)) ∧ w'.cell? ⟨gb189, 1, none⟩ = some (.string ((rd_T39 l0_4 x107_5).f1))) (ds := []) (bmp 18 0) (by kernel_rfl) rfl rfl ⟨(blk_cell BK189.out 0).trans rfl, (blk_cell BK189.out 1).trans rfl⟩ (fun hHeld => ?_); refine with_tabW tag_Check.tab24 tag_Check.bits24 (fun HT_ HW_ => ?_)
                       generalize w75.drew = w76 at BK176 BK189 HB hHeld ⊢
                       iterate 2 (first | refine pu_ HT_ ?_ | refine tk_ HT_ HW_ hHeld ?_)
                       refine one_ (i := 2) (N := some 114) (bmp 18 3) rfl rfl (one_of HT_.out (by kernel_rfl)) (by decide) (fun K hK => ?_)
                       refine goes_ Tryz.func59 (by kernel_rfl) rfl #[.string ((rd_T39 l0_4 x107_5).f0), .int .i64 2, .int .i64 2] (by rfl) rfl rfl (by (try simp only [List.map_toArray, List.map_cons, List.map_nil]); first | done | rfl | (simp only [List.length_drop, List.length_take]; rfl)) ?_
                       with_reducible refine (tag_signs.calls k5 ((rd_T39 l0_4 x107_5).f0) 2 2 true _ A66.out).mono ?_
                       rintro e w' ⟨rfl, ⟨nd, rfl⟩⟩
                       refine ⟨_, rfl, ?_⟩
                       refine hK.out _ _ ⟨(blk_cell BK189.out 0).trans rfl, (blk_cell BK189.out 1).trans rfl⟩ (fun hHeld => ?_)
                       clear hK K
                       refine norm_ (a' := ?_) ?_ ?_
                       rotate_left
                       ·show Act.put _ (some 114) _ = _
                        simp only [Act.put, List.setIfInBounds_toArray, List.set_cons_zero, List.set_cons_succ, i64_w, i32_w]
                        rfl
                       iterate 3 (refine pu_ HT_ ?_)
                       refine pg_ 7 (bm 18 191) HT_ ?_
                       refine tg_ 6 (bmp 18 8) HT_ HW_ hHeld ?_
                       refine tk_ HT_ HW_ hHeld ?_
                       refine one_ (i := 9) (N := some 121) (bmp 18 10) rfl rfl (one_of HT_.out (by kernel_rfl)) (by decide) (fun K hK => ?_)
                       refine goes_ Tryz.func44 (by kernel_rfl) rfl #[.string ((rd_T39 l0_4 x107_5).f0)] (by rfl) rfl rfl (by (try simp only [List.map_toArray, List.map_cons, List.map_nil]); first | done | rfl | (simp only [List.length_drop, List.length_take]; rfl)) ?_
                       with_reducible refine (tag_lower.calls ((rd_T39 l0_4 x107_5).f0) t191 _ A68.out).mono ?_
                       rintro e w77 ⟨rfl, hb⟩
                       refine ⟨_, rfl, ?_⟩
                       replace BK176 := Aside0.mk (blk_below (g := gb176) (o := .cells #[.string a0_0, .string a0_1, .string a0_2, .slice A0_3 l0_3.length c0_3, .slice (some ad188) l0_4.length c0_4] 25 (0, 0)) (bk_ BK176) hb)
                       replace BK189 := Aside0.mk (blk_below (g := gb189) (o := .cells #[.string ((rd_T39 l0_4 x107_5).f0), .string ((rd_T39 l0_4 x107_5).f1)] 39 (0, 0)) (bk_ BK189) hb)
                       replace HB := Aside0.mk (below_step (by repeat (first | (with_reducible first | exact HB.out | apply below_alloc | apply pw_below_drewN | apply below_drew1 | refine below_set ?_ GE176.out | refine below_set ?_ GE189.out) | exact HB.out)) hb)
                       (try clear hb)
                       (try clear hb2)
                       (try clear hk)
                       (try clear hi)
                       refine hK.out _ _ ⟨(blk_cell BK189.out 0).trans rfl, (blk_cell BK189.out 1).trans rfl⟩ (fun hHeld => ?_)
                       clear hK K
                       refine norm_ (a' := ?_) ?_ ?_
                       rotate_left
                       ·show Act.put _ (some 121) _ = _
                        simp only [Act.put, List.setIfInBounds_toArray, List.set_cons_zero, List.set_cons_succ, i64_w, i32_w]
                        rfl
                       iterate 8 (first | refine sk_ HT_ ?_ | refine pu_ HT_ ?_)
                       refine dg_ HT_ ?_
                       try go_wp2
                       go_meet
                       case rel => exact ⟨_, (true), (by first | rfl | (simp; done) | (simp [*]; done)), H', ⟨by have := HJ1.out; have := HJ15.out; have := HJ25.out; have := HK4.out; have := HK5.out; first | omega | exact Nat.le_refl _⟩, ⟨by (with_reducible repeat (first | refine blk_drewN ?_ _ | refine blk_drew ?_ | refine blk_alloc ?_ _)); exact BK176.out⟩, ⟨by (with_reducible repeat (first | refine blk_drewN ?_ _ | refine blk_drew ?_ | refine blk_alloc ?_ _)); exact BK189.out⟩, ⟨by repeat (first | (with_reducible first | exact HB.out | apply below_alloc | apply pw_below_drewN | apply below_drew1 | refine below_set ?_ GE176.out | refine below_set ?_ GE189.out) | exact HB.out)⟩⟩
                     ·replace c67 := Bool.eq_false_iff.mpr c67
                      subst c67
                      have H1 : (tag_Check.j6 k5 x107_5 l0_4 (l0_4.length : Int) x107_5 true a0_0 a0_1 a0_2 l0_3 l0_4 ((rd_T39 l0_4 x107_5).f0) ((rd_T39 l0_4 x107_5).f1)) = some r := by rw [if_neg (show ¬ (false = true) by decide)] at H; exact H
                      clear H
                      have H := H1
                      clear H1
                      have H' := Aside0.mk H
                      clear H
                      try go_wp2
                      have n0_ : Aside0 (((w63.setCell ⟨gb189, 0, none⟩ (.string ((rd_T39 l0_4 x107_5).f0))).setCell ⟨gb189, 1, none⟩ (.string ((rd_T39 l0_4 x107_5).f1))).heap[gb176]? = some (.cells #[.string a0_0, .string a0_1, .string a0_2, .slice A0_3 l0_3.length c0_3, .slice (some ad188) l0_4.length c0_4] 25 (0, 0))) := ⟨by (with_reducible repeat (first | refine blk_drewN ?_ _ | refine blk_drew ?_ | refine blk_alloc ?_ _)); refine blk_far ?_ NB176_189.out _; (with_reducible repeat (first | refine blk_drewN ?_ _ | refine blk_drew ?_ | refine blk_alloc ?_ _)); refine blk_far ?_ NB176_189.out _; (with_reducible repeat (first | refine blk_drewN ?_ _ | refine blk_drew ?_ | refine blk_alloc ?_ _)); exact BK176.out⟩
                      have n1_ : Aside0 (((w63.setCell ⟨gb189, 0, none⟩ (.string ((rd_T39 l0_4 x107_5).f0))).setCell ⟨gb189, 1, none⟩ (.string ((rd_T39 l0_4 x107_5).f1))).heap[gb189]? = some (.cells #[.string ((rd_T39 l0_4 x107_5).f0), .string ((rd_T39 l0_4 x107_5).f1)] 39 (0, 0))) := ⟨by (with_reducible repeat (first | refine blk_drewN ?_ _ | refine blk_drew ?_ | refine blk_alloc ?_ _)); refine blk_put (cs := #[.string ((rd_T39 l0_4 x107_5).f0), .string (⟨#[]⟩ : ByteArray)]) ?_ 1 _ rfl; (with_reducible repeat (first | refine blk_drewN ?_ _ | refine blk_drew ?_ | refine blk_alloc ?_ _)); refine blk_put (cs := #[.string (⟨#[]⟩ : ByteArray), .string (⟨#[]⟩ : ByteArray)]) ?_ 0 _ rfl; (with_reducible repeat (first | refine blk_drewN ?_ _ | refine blk_drew ?_ | refine blk_alloc ?_ _)); exact BK189.out⟩
                      have n2_ : Aside0 (Below w.heap.size w ((w63.setCell ⟨gb189, 0, none⟩ (.string ((rd_T39 l0_4 x107_5).f0))).setCell ⟨gb189, 1, none⟩ (.string ((rd_T39 l0_4 x107_5).f1)))) := ⟨by repeat (first | (with_reducible first | exact HB.out | apply below_alloc | apply pw_below_drewN | apply below_drew1 | refine below_set ?_ GE176.out | refine below_set ?_ GE189.out) | exact HB.out)⟩
                      (try clear BK176)
                      (try clear BK189)
                      (try clear HB)
                      generalize ((w63.setCell ⟨gb189, 0, none⟩ (.string ((rd_T39 l0_4 x107_5).f0))).setCell ⟨gb189, 1, none⟩ (.string ((rd_T39 l0_4 x107_5).f1))) = w78 at n0_ n1_ n2_ ⊢
                      have BK176 := n0_
                      have BK189 := n1_
                      have HB := n2_
                      clear n0_ n1_ n2_
                      replace BK176 := Aside0.mk (blk_drew BK176.out)
                      replace BK189 := Aside0.mk (blk_drew BK189.out)
                      replace HB := Aside0.mk (below_drew1 HB.out)
                      refine start_ (n := 18) (S := fun w' => w'.cell? ⟨gb189, 0, none⟩ = some (.string ((rd_T39 l0_4 x107_5).f0)) ∧ w'.cell? ⟨gb189, 1, none⟩ = some (.string ((rd_T39 l0_4 x107_5).f1))) (ds := []) (bmp 18 0) (by kernel_rfl) rfl rfl ⟨(blk_cell BK189.out 0).trans rfl, (blk_cell BK189.out 1).trans rfl⟩ (fun hHeld => ?_); refine with_tabW tag_Check.tab24 tag_Check.bits24 (fun HT_ HW_ => ?_)
                      generalize w78.drew = w79 at BK176 BK189 HB hHeld ⊢
                      iterate 2 (first | refine pu_ HT_ ?_ | refine tk_ HT_ HW_ hHeld ?_)
                      refine one_ (i := 2) (N := some 114) (bmp 18 3) rfl rfl (one_of HT_.out (by kernel_rfl)) (by decide) (fun K hK => ?_)
                      refine goes_ Tryz.func59 (by kernel_rfl) rfl #[.string ((rd_T39 l0_4 x107_5).f0), .int .i64 2, .int .i64 2] (by rfl) rfl rfl (by (try simp only [List.map_toArray, List.map_cons, List.map_nil]); first | done | rfl | (simp only [List.length_drop, List.length_take]; rfl)) ?_
                      with_reducible refine (tag_signs.calls k5 ((rd_T39 l0_4 x107_5).f0) 2 2 false _ A66.out).mono ?_
                      rintro e w' ⟨rfl, ⟨nd, rfl⟩⟩
                      refine ⟨_, rfl, ?_⟩
                      refine hK.out _ _ ⟨(blk_cell BK189.out 0).trans rfl, (blk_cell BK189.out 1).trans rfl⟩ (fun hHeld => ?_)
                      clear hK K
                      refine norm_ (a' := ?_) ?_ ?_
                      rotate_left
                      ·show Act.put _ (some 114) _ = _
                       simp only [Act.put, List.setIfInBounds_toArray, List.set_cons_zero, List.set_cons_succ, i64_w, i32_w]
                       rfl
                      iterate 15 (first | refine sk_ HT_ ?_ | refine pu_ HT_ ?_)
                      refine dg_ HT_ ?_
                      try go_wp2
                      go_meet
                      case rel => exact ⟨_, (true), (by first | rfl | (simp; done) | (simp [*]; done)), H', ⟨by have := HJ1.out; have := HJ15.out; have := HJ25.out; have := HK4.out; have := HK5.out; first | omega | exact Nat.le_refl _⟩, ⟨by (with_reducible repeat (first | refine blk_drewN ?_ _ | refine blk_drew ?_ | refine blk_alloc ?_ _)); exact BK176.out⟩, ⟨by (with_reducible repeat (first | refine blk_drewN ?_ _ | refine blk_drew ?_ | refine blk_alloc ?_ _)); exact BK189.out⟩, ⟨by repeat (first | (with_reducible first | exact HB.out | apply below_alloc | apply pw_below_drewN | apply below_drew1 | refine below_set ?_ GE176.out | refine below_set ?_ GE189.out) | exact HB.out)⟩⟩
                    case rest =>
                     clear HC62
                     clear c59b0 c60b0 c61b0 hcz65_0 hcz65_1 hfz65_0 hfz65_1 hx188_0 hx188_1 p188 q188
                     obtain ⟨kq, x129_61, rfl, HA, HJ61, BK176, BK189, HB⟩ := hcut
                     cases kq with
                     | zero => exact absurd HA.out (by simp [tag_Check.j6])
                     | succ kj61 =>
                      have H := HA.out
                      clear HA
                      simp only [tag_Check.j6] at H
                      by_cases c80 : x129_61 = true
                      ·subst c80
                       have H1 : (some 70) = some r := by rw [if_pos rfl] at H; exact H
                       clear H
                       have H := H1
                       clear H1
                       obtain rfl := Option.some.inj H
                       go_wp2
                       go_ret
                       exact ⟨by first | rfl | (simp [errW_none, errW_some] <;> rfl) | (simp [*, errW_none, errW_some] <;> rfl), by repeat (first | (with_reducible first | exact HB.out | apply below_alloc | apply pw_below_drewN | apply below_drew1 | refine below_set ?_ GE176.out | refine below_set ?_ GE189.out) | exact HB.out)⟩
                      ·replace c80 := Bool.eq_false_iff.mpr c80
                       subst c80
                       have H1 : (if x107_5 > 0 then (if 0 ≤ (wrap64 (x107_5 - 1)) then (if (wrap64 (x107_5 - 1)) < (l0_4.length : Int) then ((tag_rising.f ((rd_T39 l0_4 (wrap64 (x107_5 - 1))).f0) ((rd_T39 l0_4 x107_5).f0)).bind fun t194 => (if t194 = 0 then (tag_Check.l1 kj61 l0_4 (l0_4.length : Int) (wrap64 (x107_5 + 1)) a0_0 a0_1 a0_2 l0_3 l0_4) else (some t194))) else (none)) else (none)) else (tag_Check.l1 kj61 l0_4 (l0_4.length : Int) (wrap64 (x107_5 + 1)) a0_0 a0_1 a0_2 l0_3 l0_4)) = some r := by rw [if_neg (show ¬ (false = true) by decide)] at H; exact H
                       clear H
                       have H := H1
                       clear H1
                       by_cases c81 : x107_5 > 0
                       ·rw [if_pos c81] at H
                        have c81b0 : decide (0 < x107_5) = true := decide_eq_true c81
                        clear c81
                        obtain ⟨ji82, hji82⟩ : ∃ j_ : Int, (wrap64 (x107_5 - 1)) = j_ := ⟨_, rfl⟩
                        replace H : (if 0 ≤ (ji82) then (if (ji82) < (l0_4.length : Int) then ((tag_rising.f ((rd_T39 l0_4 (ji82)).f0) ((rd_T39 l0_4 x107_5).f0)).bind fun t194 => (if t194 = 0 then (tag_Check.l1 kj61 l0_4 (l0_4.length : Int) (wrap64 (x107_5 + 1)) a0_0 a0_1 a0_2 l0_3 l0_4) else (some t194))) else (none)) else (none)) = some r := by first | (rw [hji82] at H; exact H) | (simp only [hji82] at H ⊢; exact H)
                        have hji82w : (IntKind.i64.wrap (x107_5 - 1)) = ji82 := (i64_w _).trans hji82
                        by_cases c83 : 0 ≤ (ji82)
                        ·rw [if_pos c83] at H
                         have c83b0 : decide (0 ≤ (ji82)) = true := decide_eq_true c83
                         clear c83
                         by_cases c84 : (ji82) < (l0_4.length : Int)
                         ·rw [if_pos c84] at H
                          have c84b0 : decide ((ji82) < (l0_4.length : Int)) = true := decide_eq_true c84
                          clear c84
                          replace H := Option.bind_eq_some_iff.mp H
                          obtain ⟨t194, A850, H⟩ := H
                          try dsimp only at H
                          have A85 := Aside0.mk A850
                          clear A850
                          by_cases c86 : t194 = 0
                          ·rw [if_pos c86] at H
                           have c86b0 : (t194 == 0) = true := beq_iff_eq.mpr c86
                           have c86b1 : (t194 != 0) = false := bne_eq_false_iff_eq.mpr c86
                           clear c86
                           have H' := Aside0.mk H
                           clear H
                           try go_wp2
                           replace BK176 := Aside0.mk (blk_drew BK176.out)
                           replace BK189 := Aside0.mk (blk_drew BK189.out)
                           replace HB := Aside0.mk (below_drew1 HB.out)
                           have p193 : 0 ≤ ((ji82) : Int) := of_decide_eq_true (by first | (with_reducible assumption) | assumption)
                           have q193 : (ji82) < (l0_4.length : Int) := of_decide_eq_true (by first | (with_reducible assumption) | assumption)
                           obtain ⟨ad193, e193, hx193_0, hx193_1⟩ := at_T39 HR0_4.out (ji82) p193 q193
                           have hw193_1 := hx193_1
                           have hw193_0 := hx193_0
                           obtain rfl : ad188 = ad193 := (by injection e193)
                           replace hx193_0 := (HB.out.cell (World.block_lt_of_cell? w _ hx193_0)).trans hx193_0
                           replace hx193_1 := (HB.out.cell (World.block_lt_of_cell? w _ hx193_1)).trans hx193_1
                           replace p193 := eq_true p193
                           replace q193 := eq_true q193
                           refine start_ (n := 11) (S := fun w' => w'.cell? ⟨gb176, 0, none⟩ = some (.string a0_0) ∧ w'.cell? ⟨gb176, 1, none⟩ = some (.string a0_1) ∧ w'.cell? ⟨gb176, 2, none⟩ = some (.string a0_2) ∧ w'.cell? ⟨gb176, 3, none⟩ = some (.slice A0_3 l0_3.length c0_3) ∧ w'.cell? ⟨gb176, 4, none⟩ = some (.slice (some ad188) l0_4.length c0_4) ∧ w'.cell? ⟨gb189, 0, none⟩ = some (.string ((rd_T39 l0_4 x107_5).f0)) ∧ w'.cell? ⟨gb189, 1, none⟩ = some (.string ((rd_T39 l0_4 x107_5).f1)) ∧ w'.cell? (ad188.add (((ji82)).toNat * 2)) = some (.string ((rd_T39 l0_4 (ji82)).f0)) ∧ w'.cell? ⟨(ad188.add (((ji82)).toNat * 2)).block, (ad188.add (((ji82)).toNat * 2)).off + 1, none⟩ = some (.string ((rd_T39 l0_4 (ji82)).f1))) (ds := []) (bmp 11 0) (by kernel_rfl) rfl rfl ⟨(blk_cell BK176.out 0).trans rfl, (blk_cell BK176.out 1).trans rfl, (blk_cell BK176.out 2).trans rfl, (blk_cell BK176.out 3).trans rfl, (blk_cell BK176.out 4).trans rfl, (blk_cell BK189.out 0).trans rfl, (blk_cell BK189.out 1).trans rfl, ((HB.out.cell (World.block_lt_of_cell? w _ hw193_0)).trans hw193_0), ((HB.out.cell (World.block_lt_of_cell? w _ hw193_1)).trans hw193_1)⟩ (fun hHeld => ?_); refine with_tabW tag_Check.tab27 tag_Check.bits27 (fun HT_ HW_ => ?_)
                           generalize wc.drew = w87 at BK176 BK189 HB hx193_0 hx193_1 hHeld ⊢
                           refine pu_ HT_ ?_
                           refine pg_ 2 (bm 11 5) HT_ ?_
                           refine pg_ 3 (bm 11 13) HT_ ?_
                           refine pg_ 7 (bm 11 141) HT_ ?_
                           refine tg_ 1 (bm 11 143) HT_ HW_ hHeld ?_
                           refine pg_ 4 (bm 11 159) HT_ ?_
                           refine pg_ 5 (bm 11 191) HT_ ?_
                           refine tg_ 6 (bmp 11 8) HT_ HW_ hHeld ?_
                           refine tk_ HT_ HW_ hHeld ?_
                           refine one_ (i := 9) (N := some 141) (bmp 11 10) rfl rfl (one_of HT_.out (by kernel_rfl)) (by decide) (fun K hK => ?_)
                           refine goes_ Tryz.func58 (by kernel_rfl) rfl #[.string ((rd_T39 l0_4 (ji82)).f0), .string ((rd_T39 l0_4 x107_5).f0)] (by rfl) rfl rfl (by (try simp only [List.map_toArray, List.map_cons, List.map_nil]); first | done | (simp only [hji82]; rfl) | rfl | (simp only [List.length_drop, List.length_take]; rfl)) ?_
                           with_reducible refine (tag_rising.calls ((rd_T39 l0_4 (ji82)).f0) ((rd_T39 l0_4 x107_5).f0) t194 _ A85.out).mono ?_
                           rintro e w' ⟨rfl, ⟨nd, rfl⟩⟩
                           refine ⟨_, rfl, ?_⟩
                           refine hK.out _ _ ⟨(blk_cell BK176.out 0).trans rfl, (blk_cell BK176.out 1).trans rfl, (blk_cell BK176.out 2).trans rfl, (blk_cell BK176.out 3).trans rfl, (blk_cell BK176.out 4).trans rfl, (blk_cell BK189.out 0).trans rfl, (blk_cell BK189.out 1).trans rfl, ((HB.out.cell (World.block_lt_of_cell? w _ hw193_0)).trans hw193_0), ((HB.out.cell (World.block_lt_of_cell? w _ hw193_1)).trans hw193_1)⟩ (fun hHeld => ?_)
                           clear hK K
                           refine norm_ (a' := ?_) ?_ ?_
                           rotate_left
                           ·show Act.put _ (some 141) _ = _
                            simp only [Act.put, List.setIfInBounds_toArray, List.set_cons_zero, List.set_cons_succ, i64_w, i32_w]
                            rfl
                           refine pu_ HT_ ?_
                           refine dg_ HT_ ?_
                           try go_wp2
                           go_roundg kj61
                           case measure => have := HJ1.out; have := HJ15.out; have := HJ25.out; have := HK4.out; have := HK5.out; have := HJ61.out; omega
                           case rel => exact ⟨(wrap64 (x107_5 + 1)), (by first | rfl | (simp; done) | (simp [*]; done)), H', ⟨by have := HJ1.out; have := HJ15.out; have := HJ25.out; have := HK4.out; have := HK5.out; have := HJ61.out; omega⟩, ⟨by (with_reducible repeat (first | refine blk_drewN ?_ _ | refine blk_drew ?_ | refine blk_alloc ?_ _)); exact BK176.out⟩, ⟨by repeat (first | (with_reducible first | exact HB.out | apply below_alloc | apply pw_below_drewN | apply below_drew1 | refine below_set ?_ GE176.out | refine below_set ?_ GE189.out) | exact HB.out)⟩⟩
                          ·rw [if_neg c86] at H
                           have c86b0 : (t194 == 0) = false := beq_eq_false_iff_ne.mpr c86
                           have c86b1 : (t194 != 0) = true := bne_iff_ne.mpr c86
                           obtain rfl := Option.some.inj H
                           try go_wp2
                           replace BK176 := Aside0.mk (blk_drew BK176.out)
                           replace BK189 := Aside0.mk (blk_drew BK189.out)
                           replace HB := Aside0.mk (below_drew1 HB.out)
                           have p193 : 0 ≤ ((ji82) : Int) := of_decide_eq_true (by first | (with_reducible assumption) | assumption)
                           have q193 : (ji82) < (l0_4.length : Int) := of_decide_eq_true (by first | (with_reducible assumption) | assumption)
                           obtain ⟨ad193, e193, hx193_0, hx193_1⟩ := at_T39 HR0_4.out (ji82) p193 q193
                           have hw193_1 := hx193_1
                           have hw193_0 := hx193_0
                           obtain rfl : ad188 = ad193 := (by injection e193)
                           replace hx193_0 := (HB.out.cell (World.block_lt_of_cell? w _ hx193_0)).trans hx193_0
                           replace hx193_1 := (HB.out.cell (World.block_lt_of_cell? w _ hx193_1)).trans hx193_1
                           replace p193 := eq_true p193
                           replace q193 := eq_true q193
                           refine start_ (n := 11) (S := fun w' => w'.cell? ⟨gb176, 0, none⟩ = some (.string a0_0) ∧ w'.cell? ⟨gb176, 1, none⟩ = some (.string a0_1) ∧ w'.cell? ⟨gb176, 2, none⟩ = some (.string a0_2) ∧ w'.cell? ⟨gb176, 3, none⟩ = some (.slice A0_3 l0_3.length c0_3) ∧ w'.cell? ⟨gb176, 4, none⟩ = some (.slice (some ad188) l0_4.length c0_4) ∧ w'.cell? ⟨gb189, 0, none⟩ = some (.string ((rd_T39 l0_4 x107_5).f0)) ∧ w'.cell? ⟨gb189, 1, none⟩ = some (.string ((rd_T39 l0_4 x107_5).f1)) ∧ w'.cell? (ad188.add (((ji82)).toNat * 2)) = some (.string ((rd_T39 l0_4 (ji82)).f0)) ∧ w'.cell? ⟨(ad188.add (((ji82)).toNat * 2)).block, (ad188.add (((ji82)).toNat * 2)).off + 1, none⟩ = some (.string ((rd_T39 l0_4 (ji82)).f1))) (ds := []) (bmp 11 0) (by kernel_rfl) rfl rfl ⟨(blk_cell BK176.out 0).trans rfl, (blk_cell BK176.out 1).trans rfl, (blk_cell BK176.out 2).trans rfl, (blk_cell BK176.out 3).trans rfl, (blk_cell BK176.out 4).trans rfl, (blk_cell BK189.out 0).trans rfl, (blk_cell BK189.out 1).trans rfl, ((HB.out.cell (World.block_lt_of_cell? w _ hw193_0)).trans hw193_0), ((HB.out.cell (World.block_lt_of_cell? w _ hw193_1)).trans hw193_1)⟩ (fun hHeld => ?_); refine with_tabW tag_Check.tab27 tag_Check.bits27 (fun HT_ HW_ => ?_)
                           generalize wc.drew = w88 at BK176 BK189 HB hx193_0 hx193_1 hHeld ⊢
                           refine pu_ HT_ ?_
                           refine pg_ 2 (bm 11 5) HT_ ?_
                           refine pg_ 3 (bm 11 13) HT_ ?_
                           refine pg_ 7 (bm 11 141) HT_ ?_
                           refine tg_ 1 (bm 11 143) HT_ HW_ hHeld ?_
                           refine pg_ 4 (bm 11 159) HT_ ?_
                           refine pg_ 5 (bm 11 191) HT_ ?_
                           refine tg_ 6 (bmp 11 8) HT_ HW_ hHeld ?_
                           refine tk_ HT_ HW_ hHeld ?_
                           refine one_ (i := 9) (N := some 141) (bmp 11 10) rfl rfl (one_of HT_.out (by kernel_rfl)) (by decide) (fun K hK => ?_)
                           refine goes_ Tryz.func58 (by kernel_rfl) rfl #[.string ((rd_T39 l0_4 (ji82)).f0), .string ((rd_T39 l0_4 x107_5).f0)] (by rfl) rfl rfl (by (try simp only [List.map_toArray, List.map_cons, List.map_nil]); first | done | (simp only [hji82]; rfl) | rfl | (simp only [List.length_drop, List.length_take]; rfl)) ?_
                           with_reducible refine (tag_rising.calls ((rd_T39 l0_4 (ji82)).f0) ((rd_T39 l0_4 x107_5).f0) t194 _ A85.out).mono ?_
                           rintro e w' ⟨rfl, ⟨nd, rfl⟩⟩
                           refine ⟨_, rfl, ?_⟩
                           refine hK.out _ _ ⟨(blk_cell BK176.out 0).trans rfl, (blk_cell BK176.out 1).trans rfl, (blk_cell BK176.out 2).trans rfl, (blk_cell BK176.out 3).trans rfl, (blk_cell BK176.out 4).trans rfl, (blk_cell BK189.out 0).trans rfl, (blk_cell BK189.out 1).trans rfl, ((HB.out.cell (World.block_lt_of_cell? w _ hw193_0)).trans hw193_0), ((HB.out.cell (World.block_lt_of_cell? w _ hw193_1)).trans hw193_1)⟩ (fun hHeld => ?_)
                           clear hK K
                           refine norm_ (a' := ?_) ?_ ?_
                           rotate_left
                           ·show Act.put _ (some 141) _ = _
                            simp only [Act.put, List.setIfInBounds_toArray, List.set_cons_zero, List.set_cons_succ, i64_w, i32_w]
                            rfl
                           refine pu_ HT_ ?_
                           refine dg_ HT_ ?_
                           try go_wp2
                           go_ret
                           exact ⟨by first | rfl | (simp [errW_none, errW_some] <;> rfl) | (simp only [← hji82]; first | rfl | (simp [errW_none, errW_some] <;> rfl)) | (simp [*, errW_none, errW_some] <;> rfl), by repeat (first | (with_reducible first | exact HB.out | apply below_alloc | apply pw_below_drewN | apply below_drew1 | refine below_set ?_ GE176.out | refine below_set ?_ GE189.out) | exact HB.out)⟩
                         ·rw [if_neg c84] at H
                          exact absurd H (by simp)
                        ·rw [if_neg c83] at H
                         exact absurd H (by simp)
                       ·rw [if_neg c81] at H
                        have c81b0 : decide (0 < x107_5) = false := decide_eq_false c81
                        clear c81
                        have H' := Aside0.mk H
                        clear H
                        go_wp2
                        go_roundg kj61
                        case measure => have := HJ1.out; have := HJ15.out; have := HJ25.out; have := HK4.out; have := HK5.out; have := HJ61.out; omega
                        case rel => exact ⟨(wrap64 (x107_5 + 1)), (by first | rfl | (simp; done) | (simp [*]; done)), H', ⟨by have := HJ1.out; have := HJ15.out; have := HJ25.out; have := HK4.out; have := HK5.out; have := HJ61.out; omega⟩, ⟨by (with_reducible repeat (first | refine blk_drewN ?_ _ | refine blk_drew ?_ | refine blk_alloc ?_ _)); exact BK176.out⟩, ⟨by repeat (first | (with_reducible first | exact HB.out | apply below_alloc | apply pw_below_drewN | apply below_drew1 | refine below_set ?_ GE176.out | refine below_set ?_ GE189.out) | exact HB.out)⟩⟩
                   ·rw [if_neg c61] at H
                    exact absurd H (by simp)
                  ·rw [if_neg c60] at H
                   exact absurd H (by simp)
                 ·rw [if_neg c59] at H
                  have c59b0 : decide (x107_5 < (l0_4.length : Int)) = false := decide_eq_false c59
                  clear c59
                  obtain rfl := Option.some.inj H
                  go_wp2
                  go_ret
                  exact ⟨by first | rfl | (simp [errW_none, errW_some] <;> rfl) | (simp [*, errW_none, errW_some] <;> rfl), by repeat (first | (with_reducible first | exact HB.out | apply below_alloc | apply pw_below_drewN | apply below_drew1 | refine below_set ?_ GE176.out) | exact HB.out)⟩
end Go.Proofs.YtphjhbppjakocaaGreatDoor.PTag
