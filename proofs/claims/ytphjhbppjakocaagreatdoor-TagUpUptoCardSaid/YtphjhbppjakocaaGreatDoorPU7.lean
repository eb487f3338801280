/- Printed by a program (the kit's print.py with changes of this session) out of Lean's own print of the program: functions of the program as plain Lean functions, and that each call comes to what they say; conditions: those that each theorem states. Not trusted: Lean checks it. -/
import Derived.Test.YtphjhbppjakocaaGreatDoorPU0
import Derived.Test.YtphjhbppjakocaaGreatDoorBrief
import Derived.Test.YtphjhbppjakocaaGreatDoorRefA
namespace Go.Proofs.YtphjhbppjakocaaGreatDoor.PTag
open Go.RowKit Go.Proofs.YtphjhbppjakocaaGreatDoorW.PrintWords Go.Proofs.YtphjhbppjakocaaGreatDoorW.PrintLast Go.Proofs.YtphjhbppjakocaaGreatDoorW.PrintMore
attribute [local go_sem] max2_int min2_int max_two min_two max_three min_three max_four min_four
set_option linter.unusedVariables false
set_option linter.unusedSimpArgs false
attribute [local go_sem] setCell_drewN_ cell_put_twice_ gtr_less_
mutual
def idiomref07_Check.j0 : Nat → Bool → ByteArray → ByteArray → ByteArray → List ByteArray → List (S39) → Option (Int)
 | 0, _, _, _, _, _, _ => none
 | k + 1, x66, x138000, x138001, x138002, x138003, x138004 => if x66 = true then (some 70) else (if (x138003.length : Int) > 64 then (some 5) else (idiomref07_Check.l0 k 0 x138000 x138001 x138002 x138003 x138004))
def idiomref07_Check.l0 : Nat → Int → ByteArray → ByteArray → ByteArray → List ByteArray → List (S39) → Option (Int)
 | 0, _, _, _, _, _, _ => none
 | k + 1, x3, x138000, x138001, x138002, x138003, x138004 => if x3 < (x138003.length : Int) then (if 0 ≤ x3 then ((idiomref07_variant.f k (rdOf ByteArray.empty x138003 x3)).bind fun t153 => (if t153 = true then ((idiomref07_Small.f (rdOf ByteArray.empty x138003 x3)).bind fun t154 => (idiomref07_Check.j2 k x3 (rdOf ByteArray.empty x138003 x3) (t154.toList != (rdOf ByteArray.empty x138003 x3).toList) x138000 x138001 x138002 x138003 x138004)) else (idiomref07_Check.j2 k x3 (rdOf ByteArray.empty x138003 x3) true x138000 x138001 x138002 x138003 x138004))) else (none)) else (if (x138004.length : Int) > 64 then (some 5) else (idiomref07_Check.l1 k 0 x138000 x138001 x138002 x138003 x138004))
def idiomref07_Check.j2 : Nat → Int → ByteArray → Bool → ByteArray → ByteArray → ByteArray → List ByteArray → List (S39) → Option (Int)
 | 0, _, _, _, _, _, _, _, _ => none
 | k + 1, x3, x4, x91, x138000, x138001, x138002, x138003, x138004 => if x91 = true then (some 70) else (if x3 > 0 then (if 0 ≤ (wrap64 (x3 - 1)) then (if (wrap64 (x3 - 1)) < (x138003.length : Int) then (idiomref07_Check.j3 k x3 x4 ((rdOf ByteArray.empty x138003 (wrap64 (x3 - 1))).toList == x4.toList) x138000 x138001 x138002 x138003 x138004) else (none)) else (none)) else (idiomref07_Check.j3 k x3 x4 false x138000 x138001 x138002 x138003 x138004))
def idiomref07_Check.j3 : Nat → Int → ByteArray → Bool → ByteArray → ByteArray → ByteArray → List ByteArray → List (S39) → Option (Int)
 | 0, _, _, _, _, _, _, _, _ => none
 | k + 1, x3, x4, x103, x138000, x138001, x138002, x138003, x138004 => if x103 = true then (some 6) else (if x3 > 0 then (if 0 ≤ (wrap64 (x3 - 1)) then (if (wrap64 (x3 - 1)) < (x138003.length : Int) then (idiomref07_Check.j4 k x3 (Op.bytesLess x4.toList ((rdOf ByteArray.empty x138003 (wrap64 (x3 - 1))).toList)) x138000 x138001 x138002 x138003 x138004) else (none)) else (none)) else (idiomref07_Check.j4 k x3 false x138000 x138001 x138002 x138003 x138004))
def idiomref07_Check.j4 : Nat → Int → Bool → ByteArray → ByteArray → ByteArray → List ByteArray → List (S39) → Option (Int)
 | 0, _, _, _, _, _, _, _ => none
 | k + 1, x3, x115, x138000, x138001, x138002, x138003, x138004 => if x115 = true then (some 70) else (idiomref07_Check.l0 k (wrap64 (x3 + 1)) x138000 x138001 x138002 x138003 x138004)
def idiomref07_Check.l1 : Nat → Int → ByteArray → ByteArray → ByteArray → List ByteArray → List (S39) → Option (Int)
 | 0, _, _, _, _, _, _ => none
 | k + 1, x5, x138000, x138001, x138002, x138003, x138004 => if x5 < (x138004.length : Int) then (if 0 ≤ x5 then ((idiomref07_signs.f k ((rd_T39 x138004 x5).f0) 2 2).bind fun t159 => (if t159 = true then ((idiomref07_Small.f ((rd_T39 x138004 x5).f0)).bind fun t160 => (if t160.toList = ((rd_T39 x138004 x5).f0).toList then ((idiomref07_value.f k ((rd_T39 x138004 x5).f1)).bind fun t161 => (idiomref07_Check.j6 k x5 (!t161) x138000 x138001 x138002 x138003 x138004 ((rd_T39 x138004 x5).f0) ((rd_T39 x138004 x5).f1))) else (idiomref07_Check.j6 k x5 true x138000 x138001 x138002 x138003 x138004 ((rd_T39 x138004 x5).f0) ((rd_T39 x138004 x5).f1)))) else (idiomref07_Check.j6 k x5 true x138000 x138001 x138002 x138003 x138004 ((rd_T39 x138004 x5).f0) ((rd_T39 x138004 x5).f1)))) else (none)) else (some 0)
def idiomref07_Check.j6 : Nat → Int → Bool → ByteArray → ByteArray → ByteArray → List ByteArray → List (S39) → ByteArray → ByteArray → Option (Int)
 | 0, _, _, _, _, _, _, _, _, _ => none
 | k + 1, x5, x149, x138000, x138001, x138002, x138003, x138004, x159000, x159001 => if x149 = true then (some 70) else (if x5 > 0 then (if 0 ≤ (wrap64 (x5 - 1)) then (if (wrap64 (x5 - 1)) < (x138004.length : Int) then (idiomref07_Check.j7 k x5 (((rd_T39 x138004 (wrap64 (x5 - 1))).f0).toList == x159000.toList) x138000 x138001 x138002 x138003 x138004 x159000 x159001) else (none)) else (none)) else (idiomref07_Check.j7 k x5 false x138000 x138001 x138002 x138003 x138004 x159000 x159001))
def idiomref07_Check.j7 : Nat → Int → Bool → ByteArray → ByteArray → ByteArray → List ByteArray → List (S39) → ByteArray → ByteArray → Option (Int)
 | 0, _, _, _, _, _, _, _, _, _ => none
 | k + 1, x5, x163, x138000, x138001, x138002, x138003, x138004, x159000, x159001 => if x163 = true then (some 6) else (if x5 > 0 then (if 0 ≤ (wrap64 (x5 - 1)) then (if (wrap64 (x5 - 1)) < (x138004.length : Int) then (idiomref07_Check.j8 k x5 (Op.bytesLess x159000.toList (((rd_T39 x138004 (wrap64 (x5 - 1))).f0).toList)) x138000 x138001 x138002 x138003 x138004) else (none)) else (none)) else (idiomref07_Check.j8 k x5 false x138000 x138001 x138002 x138003 x138004))
def idiomref07_Check.j8 : Nat → Int → Bool → ByteArray → ByteArray → ByteArray → List ByteArray → List (S39) → Option (Int)
 | 0, _, _, _, _, _, _, _ => none
 | k + 1, x5, x177, x138000, x138001, x138002, x138003, x138004 => if x177 = true then (some 70) else (idiomref07_Check.l1 k (wrap64 (x5 + 1)) x138000 x138001 x138002 x138003 x138004)
end
def idiomref07_Check.f (k : Nat) (a0_0 : ByteArray) (a0_1 : ByteArray) (a0_2 : ByteArray) (l0_3 : List ByteArray) (l0_4 : List (S39)) : Option (Int) := if a0_0.toList = ([] : List UInt8) then (if a0_1.toList = ([] : List UInt8) then (if a0_2.toList = ([] : List UInt8) then (idiomref07_Check.j0 k false a0_0 a0_1 a0_2 l0_3 l0_4) else ((idiomref07_region.f k a0_2).bind fun t138 => (if t138 = true then ((idiomref07_great.f a0_2).bind fun t139 => (idiomref07_Check.j0 k (t139.toList != a0_2.toList) a0_0 a0_1 a0_2 l0_3 l0_4)) else (idiomref07_Check.j0 k true a0_0 a0_1 a0_2 l0_3 l0_4)))) else ((idiomref07_script.f k a0_1).bind fun t140 => (if t140 = true then ((idiomref07_title.f a0_1).bind fun t141 => (if t141.toList = a0_1.toList then (if a0_2.toList = ([] : List UInt8) then (idiomref07_Check.j0 k false a0_0 a0_1 a0_2 l0_3 l0_4) else ((idiomref07_region.f k a0_2).bind fun t142 => (if t142 = true then ((idiomref07_great.f a0_2).bind fun t143 => (idiomref07_Check.j0 k (t143.toList != a0_2.toList) a0_0 a0_1 a0_2 l0_3 l0_4)) else (idiomref07_Check.j0 k true a0_0 a0_1 a0_2 l0_3 l0_4)))) else (idiomref07_Check.j0 k true a0_0 a0_1 a0_2 l0_3 l0_4))) else (idiomref07_Check.j0 k true a0_0 a0_1 a0_2 l0_3 l0_4)))) else ((idiomref07_lang.f k a0_0).bind fun t144 => (if t144 = true then ((idiomref07_Small.f a0_0).bind fun t145 => (if t145.toList = a0_0.toList then (if a0_0.toList = ([117, 110, 100] : List UInt8) then (idiomref07_Check.j0 k true a0_0 a0_1 a0_2 l0_3 l0_4) else (if a0_1.toList = ([] : List UInt8) then (if a0_2.toList = ([] : List UInt8) then (idiomref07_Check.j0 k false a0_0 a0_1 a0_2 l0_3 l0_4) else ((idiomref07_region.f k a0_2).bind fun t146 => (if t146 = true then ((idiomref07_great.f a0_2).bind fun t147 => (idiomref07_Check.j0 k (t147.toList != a0_2.toList) a0_0 a0_1 a0_2 l0_3 l0_4)) else (idiomref07_Check.j0 k true a0_0 a0_1 a0_2 l0_3 l0_4)))) else ((idiomref07_script.f k a0_1).bind fun t148 => (if t148 = true then ((idiomref07_title.f a0_1).bind fun t149 => (if t149.toList = a0_1.toList then (if a0_2.toList = ([] : List UInt8) then (idiomref07_Check.j0 k false a0_0 a0_1 a0_2 l0_3 l0_4) else ((idiomref07_region.f k a0_2).bind fun t150 => (if t150 = true then ((idiomref07_great.f a0_2).bind fun t151 => (idiomref07_Check.j0 k (t151.toList != a0_2.toList) a0_0 a0_1 a0_2 l0_3 l0_4)) else (idiomref07_Check.j0 k true a0_0 a0_1 a0_2 l0_3 l0_4)))) else (idiomref07_Check.j0 k true a0_0 a0_1 a0_2 l0_3 l0_4))) else (idiomref07_Check.j0 k true a0_0 a0_1 a0_2 l0_3 l0_4))))) else (idiomref07_Check.j0 k true a0_0 a0_1 a0_2 l0_3 l0_4))) else (idiomref07_Check.j0 k true a0_0 a0_1 a0_2 l0_3 l0_4)))
def idiomref07_Check.T1 : Bool × List (List Nat × List Nat) := (true, [([], []), ([0], [0]), ([1], [1]), ([2], [2]), ([3], [3]), ([4, 3], [3, 4]), ([5, 3, 3], [3, 5]), ([6, 3], [3, 6]), ([7, 6, 3], [3, 7]), ([8], [8]), ([9, 8], [8, 9]), ([10, 8, 8], [8, 10]), ([8], [8]), ([12, 8], [8, 12]), ([11, 13, 8], [8, 11, 13]), ([8, 14, 3], [3, 8, 14]), ([15, 11, 3], [3, 15]), ([16], [16]), ([17, 16], [16, 17]), ([18, 16], [16, 18]), ([16, 19, 3], [3, 16, 19]), ([3, 20], [3, 20]), ([21, 16], [21]), ([22], [22]), ([23, 22], [22, 23]), ([24, 22], [22, 24]), ([25, 22, 22], [22, 25]), ([26], [26]), ([27, 26], [26, 27]), ([28, 26, 26], [26, 28]), ([29, 26], [26, 29]), ([30, 29, 26], [26, 30]), ([31], [31]), ([32, 31], [31, 32]), ([33, 31, 31], [31, 33]), ([31], [31]), ([35, 31], [31, 35]), ([34, 36, 31], [31, 34, 36]), ([31, 37, 26], [26, 31, 37]), ([26, 38, 22], [22, 26, 38]), ([22, 39], [22, 39]), ([40, 34], [40]), ([41], [41]), ([42, 41], [41, 42]), ([43, 41], [41, 43]), ([44, 41, 41], [41, 44]), ([45], [45]), ([46, 45], [45, 46]), ([47, 45, 45], [45, 47]), ([48, 45], [45, 48]), ([49, 48, 45], [45, 49]), ([50], [50]), ([51, 50], [50, 51]), ([52, 50, 50], [50, 52]), ([50], [50]), ([54, 50], [50, 54]), ([53, 55, 50], [50, 53, 55]), ([50, 56, 45], [45, 50, 56]), ([45, 57, 41], [41, 45, 57]), ([41, 58], [41, 58])])
def idiomref07_Check.B1 : List Nat := [0, 1, 3, 7, 15, 31, 63, 127, 255, 511, 1023, 2047, 511, 4607, 16383, 32767, 65535, 131071, 262143, 524287, 1048575, 2097151, 4194303, 8388607, 16777215, 33554431, 67108863, 134217727, 268435455, 536870911, 1073741823, 2147483647, 4294967295, 8589934591, 17179869183, 4294967295, 38654705663, 137438953471, 274877906943, 549755813887, 1099511627775, 2199023255551, 4398046511103, 8796093022207, 17592186044415, 35184372088831, 70368744177663, 140737488355327, 281474976710655, 562949953421311, 1125899906842623, 2251799813685247, 4503599627370495, 9007199254740991, 2251799813685247, 20266198323167231, 72057594037927935, 144115188075855871, 288230376151711743, 576460752303423487]
theorem idiomref07_Check.tab1 : rtab .any (opsOf Tryz.f11 1) = idiomref07_Check.T1 := by kernel_rfl
theorem idiomref07_Check.bits1 : waitsOk idiomref07_Check.T1.2 idiomref07_Check.B1 = true := by kernel_rfl
def idiomref07_Check.T21 : Bool × List (List Nat × List Nat) := (true, [([], []), ([0], [0]), ([1], [1]), ([2], [2]), ([3, 2], [3]), ([4], [4]), ([5, 4], [4, 5]), ([6, 4, 4], [4, 6]), ([4], [4]), ([8, 4], [4, 8]), ([7, 9, 4], [4, 7, 9]), ([4, 10], [4, 10]), ([11, 7], [11]), ([12], [12]), ([13, 12], [12, 13]), ([14, 12, 12], [12, 14]), ([15, 12], [12, 15]), ([12, 16], [12, 16])])
def idiomref07_Check.B21 : List Nat := [0, 1, 3, 7, 15, 31, 63, 127, 31, 287, 1023, 2047, 4095, 8191, 16383, 32767, 65535, 131071]
theorem idiomref07_Check.tab21 : rtab .any (opsOf Tryz.f11 21) = idiomref07_Check.T21 := by kernel_rfl
theorem idiomref07_Check.bits21 : waitsOk idiomref07_Check.T21.2 idiomref07_Check.B21 = true := by kernel_rfl
def idiomref07_Check.T23 : Bool × List (List Nat × List Nat) := (true, [([], []), ([0], [0]), ([1], [1]), ([2], [2]), ([3, 2], [2, 3]), ([2], [2]), ([5, 2], [2, 5]), ([4, 6, 2], [2, 4, 6]), ([7, 2], [2, 7]), ([8, 2], [2, 8]), ([2], [2]), ([10, 2], [2, 10]), ([9, 11, 2], [2, 9, 11]), ([2, 12], [2, 12])])
def idiomref07_Check.B23 : List Nat := [0, 1, 3, 7, 15, 7, 39, 127, 255, 511, 7, 1031, 4095, 8191]
theorem idiomref07_Check.tab23 : rtab .any (opsOf Tryz.f11 23) = idiomref07_Check.T23 := by kernel_rfl
theorem idiomref07_Check.bits23 : waitsOk idiomref07_Check.T23.2 idiomref07_Check.B23 = true := by kernel_rfl
def idiomref07_Check.T25 : Bool × List (List Nat × List Nat) := (true, [([], []), ([0], [0]), ([1], [1]), ([2], [2]), ([3, 2], [2, 3]), ([2], [2]), ([5, 2], [2, 5]), ([4, 6, 2], [2, 4, 6]), ([7, 2], [2, 7]), ([8, 2], [2, 8]), ([2], [2]), ([10, 2], [2, 10]), ([9, 11, 2], [2, 9, 11]), ([2, 12], [2, 12])])
def idiomref07_Check.B25 : List Nat := [0, 1, 3, 7, 15, 7, 39, 127, 255, 511, 7, 1031, 4095, 8191]
theorem idiomref07_Check.tab25 : rtab .any (opsOf Tryz.f11 25) = idiomref07_Check.T25 := by kernel_rfl
theorem idiomref07_Check.bits25 : waitsOk idiomref07_Check.T25.2 idiomref07_Check.B25 = true := by kernel_rfl
set_option maxHeartbeats 8000000 in
set_option maxRecDepth 100000 in
theorem idiomref07_Check.calls (k : Nat) (a0_0 : ByteArray) (a0_1 : ByteArray) (a0_2 : ByteArray) (A0_3 : Option Addr) (c0_3 : Nat) (l0_3 : List ByteArray) (A0_4 : Option Addr) (c0_4 : Nat) (l0_4 : List (S39)) (r : Int) (w : World) (hr0_3 : Kd.C Kd.string w A0_3 l0_3.length l0_3) (hc0_3 : l0_3.length ≤ c0_3) (hr0_4 : Kd.C k39 w A0_4 l0_4.length l0_4) (hc0_4 : l0_4.length ≤ c0_4) (h : idiomref07_Check.f k a0_0 a0_1 a0_2 l0_3 l0_4 = some r) :
  Calls Tryz.prog 11 #[.agg #[.string a0_0, .string a0_1, .string a0_2, .slice A0_3 l0_3.length c0_3, .slice A0_4 l0_4.length c0_4]] w fun e w' => e = .returned (.int .i64 r) ∧ Below w.heap.size w w' := by
 have hu25 := Tryz.underlying25
 have hu39 := Tryz.underlying39
 have HR0_3 := Aside0.mk hr0_3
 have HC0_3 := Aside0.mk hc0_3
 clear hr0_3 hc0_3
 have HR0_4 := Aside0.mk hr0_4
 have HC0_4 := Aside0.mk hc0_4
 clear hr0_4 hc0_4
 have HB := Aside0.mk (Below.refl w.heap.size w)
 have H : (if a0_0.toList = ([] : List UInt8) then (if a0_1.toList = ([] : List UInt8) then (if a0_2.toList = ([] : List UInt8) then (idiomref07_Check.j0 k false a0_0 a0_1 a0_2 l0_3 l0_4) else ((idiomref07_region.f k a0_2).bind fun t138 => (if t138 = true then ((idiomref07_great.f a0_2).bind fun t139 => (idiomref07_Check.j0 k (t139.toList != a0_2.toList) a0_0 a0_1 a0_2 l0_3 l0_4)) else (idiomref07_Check.j0 k true a0_0 a0_1 a0_2 l0_3 l0_4)))) else ((idiomref07_script.f k a0_1).bind fun t140 => (if t140 = true then ((idiomref07_title.f a0_1).bind fun t141 => (if t141.toList = a0_1.toList then (if a0_2.toList = ([] : List UInt8) then (idiomref07_Check.j0 k false a0_0 a0_1 a0_2 l0_3 l0_4) else ((idiomref07_region.f k a0_2).bind fun t142 => (if t142 = true then ((idiomref07_great.f a0_2).bind fun t143 => (idiomref07_Check.j0 k (t143.toList != a0_2.toList) a0_0 a0_1 a0_2 l0_3 l0_4)) else (idiomref07_Check.j0 k true a0_0 a0_1 a0_2 l0_3 l0_4)))) else (idiomref07_Check.j0 k true a0_0 a0_1 a0_2 l0_3 l0_4))) else (idiomref07_Check.j0 k true a0_0 a0_1 a0_2 l0_3 l0_4)))) else ((idiomref07_lang.f k a0_0).bind fun t144 => (if t144 = true then ((idiomref07_Small.f a0_0).bind fun t145 => (if t145.toList = a0_0.toList then (if a0_0.toList = ([117, 110, 100] : List UInt8) then (idiomref07_Check.j0 k true a0_0 a0_1 a0_2 l0_3 l0_4) else (if a0_1.toList = ([] : List UInt8) then (if a0_2.toList = ([] : List UInt8) then (idiomref07_Check.j0 k false a0_0 a0_1 a0_2 l0_3 l0_4) else ((idiomref07_region.f k a0_2).bind fun t146 => (if t146 = true then ((idiomref07_great.f a0_2).bind fun t147 => (idiomref07_Check.j0 k (t147.toList != a0_2.toList) a0_0 a0_1 a0_2 l0_3 l0_4)) else (idiomref07_Check.j0 k true a0_0 a0_1 a0_2 l0_3 l0_4)))) else ((idiomref07_script.f k a0_1).bind fun t148 => (if t148 = true then ((idiomref07_title.f a0_1).bind fun t149 => (if t149.toList = a0_1.toList then (if a0_2.toList = ([] : List UInt8) then (idiomref07_Check.j0 k false a0_0 a0_1 a0_2 l0_3 l0_4) else ((idiomref07_region.f k a0_2).bind fun t150 => (if t150 = true then ((idiomref07_great.f a0_2).bind fun t151 => (idiomref07_Check.j0 k (t151.toList != a0_2.toList) a0_0 a0_1 a0_2 l0_3 l0_4)) else (idiomref07_Check.j0 k true a0_0 a0_1 a0_2 l0_3 l0_4)))) else (idiomref07_Check.j0 k true a0_0 a0_1 a0_2 l0_3 l0_4))) else (idiomref07_Check.j0 k true a0_0 a0_1 a0_2 l0_3 l0_4))))) else (idiomref07_Check.j0 k true a0_0 a0_1 a0_2 l0_3 l0_4))) else (idiomref07_Check.j0 k true a0_0 a0_1 a0_2 l0_3 l0_4)))) = some r := h
 clear h
 have HC2 := Aside0.mk H
 clear H
 go_enter Tryz.func11, Tryz.ntmps11
 go_upto_region 1 with (first | (refine bx_ 1 #[.string a0_0, .string a0_1, .string a0_2, .slice A0_3 l0_3.length c0_3, .slice A0_4 l0_4.length c0_4] 25 ?_; intro gb137 hg w3 hbox hb; have BK137 := Aside0.mk (hbox); have GW137 := Aside0.mk ((by rw [hg]; exact hz_ : w.heap.size ≤ gb137)); have GE137 := Aside0.mk ((by rw [hg]; exact hz_ : w.heap.size ≤ gb137)); replace HB := Aside0.mk (below_step hb_ hb); clear hb hbox hg))
 (try simp only [Act.put, List.setIfInBounds_toArray, List.set_cons_zero, List.set_cons_succ])
 go_cut [66] (fun v66 wc => ∃ (kq : Nat) (x66_1 : Bool), v66 = .bool x66_1 ∧ Aside0 (idiomref07_Check.j0 kq x66_1 a0_0 a0_1 a0_2 l0_3 l0_4 = some r) ∧ Aside0 (kq ≤ k) ∧ Aside0 (wc.heap[gb137]? = some (.cells #[.string a0_0, .string a0_1, .string a0_2, (.slice A0_3 l0_3.length c0_3), (.slice A0_4 l0_4.length c0_4)] 25 (0, 0))) ∧ Aside0 (Below w.heap.size w wc))
 case first =>
  have H := HC2.out
  clear HC2
  by_cases c4 : a0_0.toList = ([] : List UInt8)
  ·as_aux_lemma =>
   rw [if_pos c4] at H
   have c4b0 : (a0_0.toList == ([] : List UInt8)) = true := beq_iff_eq.mpr c4
   have c4b1 : (a0_0.toList != ([] : List UInt8)) = false := bne_eq_false_iff_eq.mpr c4
   have c4b2 : a0_0.toList.isEmpty = true := List.isEmpty_iff.mpr c4
   clear c4
   (first | rw [c4b0] | rw [c4b1] | rw [c4b2] | (simp only [i64_w, i32_w]; rw [c4b0]) | skip)
   (try simp only [Bool.not_true, Bool.not_false])
   by_cases c5 : a0_1.toList = ([] : List UInt8)
   ·as_aux_lemma =>
    rw [if_pos c5] at H
    have c5b0 : (a0_1.toList == ([] : List UInt8)) = true := beq_iff_eq.mpr c5
    have c5b1 : (a0_1.toList != ([] : List UInt8)) = false := bne_eq_false_iff_eq.mpr c5
    have c5b2 : a0_1.toList.isEmpty = true := List.isEmpty_iff.mpr c5
    clear c5
    by_cases c6 : a0_2.toList = ([] : List UInt8)
    ·as_aux_lemma =>
     rw [if_pos c6] at H
     have c6b0 : (a0_2.toList == ([] : List UInt8)) = true := beq_iff_eq.mpr c6
     have c6b1 : (a0_2.toList != ([] : List UInt8)) = false := bne_eq_false_iff_eq.mpr c6
     have c6b2 : a0_2.toList.isEmpty = true := List.isEmpty_iff.mpr c6
     clear c6
     have H' := Aside0.mk H
     clear H
     try go_wp2
     replace BK137 := Aside0.mk (blk_drew BK137.out)
     replace HB := Aside0.mk (below_drew1 HB.out)
     refine st5_ 60 idiomref07_Check.tab1 idiomref07_Check.bits1 BK137 (fun hHeld HT_ HW_ => ?_)
     generalize w3.drew = w7 at BK137 HB hHeld ⊢
     iterate 60 (first | refine sk_ HT_ ?_ | refine pu_ HT_ ?_ | refine tk_ HT_ HW_ hHeld ?_)
     refine dg_ HT_ ?_
     try go_wp2
     go_meet
     case rel => exact ⟨_, (false), (by first | rfl | (simp; done) | (simp [*]; done)), H', ⟨by first | omega | exact Nat.le_refl _⟩, ⟨by (with_reducible repeat (first | refine blk_drewN ?_ _ | refine blk_drew ?_ | refine blk_alloc ?_ _)); exact BK137.out⟩, ⟨by repeat (first | (with_reducible first | exact HB.out | apply below_alloc | apply pw_below_drewN | apply below_drew1 | refine below_set ?_ GE137.out) | exact HB.out)⟩⟩
    ·as_aux_lemma =>
     rw [if_neg c6] at H
     have c6b0 : (a0_2.toList == ([] : List UInt8)) = false := beq_eq_false_iff_ne.mpr c6
     have c6b1 : (a0_2.toList != ([] : List UInt8)) = true := bne_iff_ne.mpr c6
     have c6b2 : a0_2.toList.isEmpty = false := List.isEmpty_eq_false_iff.mpr c6
     replace H := Option.bind_eq_some_iff.mp H
     obtain ⟨t138, A80, H⟩ := H
     try dsimp only at H
     have A8 := Aside0.mk A80
     clear A80
     by_cases c9 : t138 = true
     ·as_aux_lemma =>
      subst c9
      have H1 : ((idiomref07_great.f a0_2).bind fun t139 => (idiomref07_Check.j0 k (t139.toList != a0_2.toList) a0_0 a0_1 a0_2 l0_3 l0_4)) = some r := by rw [if_pos rfl] at H; exact H
      clear H
      have H := H1
      clear H1
      replace H := Option.bind_eq_some_iff.mp H
      obtain ⟨t139, A100, H⟩ := H
      try dsimp only at H
      have A10 := Aside0.mk A100
      clear A100
      have H' := Aside0.mk H
      clear H
      try go_wp2
      replace BK137 := Aside0.mk (blk_drew BK137.out)
      replace HB := Aside0.mk (below_drew1 HB.out)
      refine st5_ 60 idiomref07_Check.tab1 idiomref07_Check.bits1 BK137 (fun hHeld HT_ HW_ => ?_)
      generalize w3.drew = w11 at BK137 HB hHeld ⊢
      iterate 48 (first | refine sk_ HT_ ?_ | refine pu_ HT_ ?_ | refine tk_ HT_ HW_ hHeld ?_)
      refine cg_ 48 (bmp 60 49) (some 55) Tryz.func32 #[.string a0_2] HT_ ?_
      with_reducible refine (idiomref07_region.calls k a0_2 true _ A8.out).mono ?_
      rintro e w' ⟨rfl, ⟨nd, rfl⟩⟩
      refine ⟨_, rfl, s5_ BK137, fun hHeld => nm_ ?_⟩
      iterate 3 (refine pu_ HT_ ?_)
      refine pg_ 54 (bm 60 22517998136852479) HT_ ?_
      refine tg_ 52 (bm 60 27021597764222975) HT_ HW_ hHeld ?_
      refine tg_ 55 (bm 60 63050394783186943) HT_ HW_ hHeld ?_
      refine cg_ 53 (bmp 60 56) (some 60) Tryz.func33 #[.string a0_2] HT_ ?_
      with_reducible refine (idiomref07_great.calls a0_2 t139 _ A10.out).mono ?_
      rintro e w12 ⟨rfl, hb⟩
      replace BK137 := Aside0.mk (blk_below (g := gb137) (o := .cells #[.string a0_0, .string a0_1, .string a0_2, .slice A0_3 l0_3.length c0_3, .slice A0_4 l0_4.length c0_4] 25 (0, 0)) (bk_ BK137) hb)
      replace HB := Aside0.mk (below_step (by repeat (first | (with_reducible first | exact HB.out | apply below_alloc | apply pw_below_drewN | apply below_drew1 | refine below_set ?_ GE137.out) | exact HB.out)) hb)
      (try clear hb)
      (try clear hb2)
      (try clear hk)
      (try clear hi)
      refine ⟨_, rfl, s5_ BK137, fun hHeld => nm_ ?_⟩
      iterate 4 (refine pu_ HT_ ?_)
      refine dg_ HT_ ?_
      try go_wp2
      go_meet
      case rel => exact ⟨_, ((t139.toList != a0_2.toList)), (by first | rfl | (simp; done) | (simp [*]; done)), H', ⟨by first | omega | exact Nat.le_refl _⟩, ⟨by (with_reducible repeat (first | refine blk_drewN ?_ _ | refine blk_drew ?_ | refine blk_alloc ?_ _)); exact BK137.out⟩, ⟨by repeat (first | (with_reducible first | exact HB.out | apply below_alloc | apply pw_below_drewN | apply below_drew1 | refine below_set ?_ GE137.out) | exact HB.out)⟩⟩
     ·as_aux_lemma =>
      replace c9 := Bool.eq_false_iff.mpr c9
      subst c9
      have H1 : (idiomref07_Check.j0 k true a0_0 a0_1 a0_2 l0_3 l0_4) = some r := by rw [if_neg (show ¬ (false = true) by decide)] at H; exact H
      clear H
      have H := H1
      clear H1
      have H' := Aside0.mk H
      clear H
      try go_wp2
      replace BK137 := Aside0.mk (blk_drew BK137.out)
      replace HB := Aside0.mk (below_drew1 HB.out)
      refine st5_ 60 idiomref07_Check.tab1 idiomref07_Check.bits1 BK137 (fun hHeld HT_ HW_ => ?_)
      generalize w3.drew = w13 at BK137 HB hHeld ⊢
      iterate 48 (first | refine sk_ HT_ ?_ | refine pu_ HT_ ?_ | refine tk_ HT_ HW_ hHeld ?_)
      refine cg_ 48 (bmp 60 49) (some 55) Tryz.func32 #[.string a0_2] HT_ ?_
      with_reducible refine (idiomref07_region.calls k a0_2 false _ A8.out).mono ?_
      rintro e w' ⟨rfl, ⟨nd, rfl⟩⟩
      refine ⟨_, rfl, s5_ BK137, fun hHeld => nm_ ?_⟩
      iterate 11 (first | refine sk_ HT_ ?_ | refine pu_ HT_ ?_)
      refine dg_ HT_ ?_
      try go_wp2
      go_meet
      case rel => exact ⟨_, (true), (by first | rfl | (simp; done) | (simp [*]; done)), H', ⟨by first | omega | exact Nat.le_refl _⟩, ⟨by (with_reducible repeat (first | refine blk_drewN ?_ _ | refine blk_drew ?_ | refine blk_alloc ?_ _)); exact BK137.out⟩, ⟨by repeat (first | (with_reducible first | exact HB.out | apply below_alloc | apply pw_below_drewN | apply below_drew1 | refine below_set ?_ GE137.out) | exact HB.out)⟩⟩
   ·as_aux_lemma =>
    rw [if_neg c5] at H
    have c5b0 : (a0_1.toList == ([] : List UInt8)) = false := beq_eq_false_iff_ne.mpr c5
    have c5b1 : (a0_1.toList != ([] : List UInt8)) = true := bne_iff_ne.mpr c5
    have c5b2 : a0_1.toList.isEmpty = false := List.isEmpty_eq_false_iff.mpr c5
    replace H := Option.bind_eq_some_iff.mp H
    obtain ⟨t140, A140, H⟩ := H
    try dsimp only at H
    have A14 := Aside0.mk A140
    clear A140
    by_cases c15 : t140 = true
    ·as_aux_lemma =>
     subst c15
     have H1 : ((idiomref07_title.f a0_1).bind fun t141 => (if t141.toList = a0_1.toList then (if a0_2.toList = ([] : List UInt8) then (idiomref07_Check.j0 k false a0_0 a0_1 a0_2 l0_3 l0_4) else ((idiomref07_region.f k a0_2).bind fun t142 => (if t142 = true then ((idiomref07_great.f a0_2).bind fun t143 => (idiomref07_Check.j0 k (t143.toList != a0_2.toList) a0_0 a0_1 a0_2 l0_3 l0_4)) else (idiomref07_Check.j0 k true a0_0 a0_1 a0_2 l0_3 l0_4)))) else (idiomref07_Check.j0 k true a0_0 a0_1 a0_2 l0_3 l0_4))) = some r := by rw [if_pos rfl] at H; exact H
     clear H
     have H := H1
     clear H1
     replace H := Option.bind_eq_some_iff.mp H
     obtain ⟨t141, A160, H⟩ := H
     try dsimp only at H
     have A16 := Aside0.mk A160
     clear A160
     by_cases c17 : t141.toList = a0_1.toList
     ·as_aux_lemma =>
      rw [if_pos c17] at H
      have c17b0 : (t141.toList == a0_1.toList) = true := beq_iff_eq.mpr c17
      have c17b1 : (t141.toList != a0_1.toList) = false := bne_eq_false_iff_eq.mpr c17
      clear c17
      by_cases c18 : a0_2.toList = ([] : List UInt8)
      ·as_aux_lemma =>
       rw [if_pos c18] at H
       have c18b0 : (a0_2.toList == ([] : List UInt8)) = true := beq_iff_eq.mpr c18
       have c18b1 : (a0_2.toList != ([] : List UInt8)) = false := bne_eq_false_iff_eq.mpr c18
       have c18b2 : a0_2.toList.isEmpty = true := List.isEmpty_iff.mpr c18
       clear c18
       have H' := Aside0.mk H
       clear H
       try go_wp2
       replace BK137 := Aside0.mk (blk_drew BK137.out)
       replace HB := Aside0.mk (below_drew1 HB.out)
       refine st5_ 60 idiomref07_Check.tab1 idiomref07_Check.bits1 BK137 (fun hHeld HT_ HW_ => ?_)
       generalize w3.drew = w19 at BK137 HB hHeld ⊢
       iterate 29 (first | refine sk_ HT_ ?_ | refine pu_ HT_ ?_ | refine tk_ HT_ HW_ hHeld ?_)
       refine cg_ 29 (bmp 60 30) (some 36) Tryz.func30 #[.string a0_1] HT_ ?_
       with_reducible refine (idiomref07_script.calls k a0_1 true _ A14.out).mono ?_
       rintro e w' ⟨rfl, ⟨nd, rfl⟩⟩
       refine ⟨_, rfl, s5_ BK137, fun hHeld => nm_ ?_⟩
       iterate 3 (refine pu_ HT_ ?_)
       refine pg_ 35 (bm 60 42949672959) HT_ ?_
       refine tg_ 33 (bm 60 51539607551) HT_ HW_ hHeld ?_
       refine tg_ 36 (bm 60 120259084287) HT_ HW_ hHeld ?_
       refine cg_ 34 (bmp 60 37) (some 41) Tryz.func31 #[.string a0_1] HT_ ?_
       with_reducible refine (idiomref07_title.calls a0_1 t141 _ A16.out).mono ?_
       rintro e w20 ⟨rfl, hb⟩
       replace BK137 := Aside0.mk (blk_below (g := gb137) (o := .cells #[.string a0_0, .string a0_1, .string a0_2, .slice A0_3 l0_3.length c0_3, .slice A0_4 l0_4.length c0_4] 25 (0, 0)) (bk_ BK137) hb)
       replace HB := Aside0.mk (below_step (by repeat (first | (with_reducible first | exact HB.out | apply below_alloc | apply pw_below_drewN | apply below_drew1 | refine below_set ?_ GE137.out) | exact HB.out)) hb)
       (try clear hb)
       (try clear hb2)
       (try clear hk)
       (try clear hi)
       refine ⟨_, rfl, s5_ BK137, fun hHeld => nm_ ?_⟩
       iterate 23 (first | refine sk_ HT_ ?_ | refine pu_ HT_ ?_ | refine tk_ HT_ HW_ hHeld ?_)
       refine dg_ HT_ ?_
       try go_wp2
       go_meet
       case rel => exact ⟨_, (false), (by first | rfl | (simp; done) | (simp [*]; done)), H', ⟨by first | omega | exact Nat.le_refl _⟩, ⟨by (with_reducible repeat (first | refine blk_drewN ?_ _ | refine blk_drew ?_ | refine blk_alloc ?_ _)); exact BK137.out⟩, ⟨by repeat (first | (with_reducible first | exact HB.out | apply below_alloc | apply pw_below_drewN | apply below_drew1 | refine below_set ?_ GE137.out) | exact HB.out)⟩⟩
      ·as_aux_lemma =>
       rw [if_neg c18] at H
       have c18b0 : (a0_2.toList == ([] : List UInt8)) = false := beq_eq_false_iff_ne.mpr c18
       have c18b1 : (a0_2.toList != ([] : List UInt8)) = true := bne_iff_ne.mpr c18
       have c18b2 : a0_2.toList.isEmpty = false := List.isEmpty_eq_false_iff.mpr c18
       replace H := Option.bind_eq_some_iff.mp H
       obtain ⟨t142, A210, H⟩ := H
       try dsimp only at H
       have A21 := Aside0.mk A210
       clear A210
       by_cases c22 : t142 = true
       ·as_aux_lemma =>
        subst c22
        have H1 : ((idiomref07_great.f a0_2).bind fun t143 => (idiomref07_Check.j0 k (t143.toList != a0_2.toList) a0_0 a0_1 a0_2 l0_3 l0_4)) = some r := by rw [if_pos rfl] at H; exact H
        clear H
        have H := H1
        clear H1
        replace H := Option.bind_eq_some_iff.mp H
        obtain ⟨t143, A230, H⟩ := H
        try dsimp only at H
        have A23 := Aside0.mk A230
        clear A230
        have H' := Aside0.mk H
        clear H
        try go_wp2
        replace BK137 := Aside0.mk (blk_drew BK137.out)
        replace HB := Aside0.mk (below_drew1 HB.out)
        refine st5_ 60 idiomref07_Check.tab1 idiomref07_Check.bits1 BK137 (fun hHeld HT_ HW_ => ?_)
        generalize w3.drew = w24 at BK137 HB hHeld ⊢
        iterate 29 (first | refine sk_ HT_ ?_ | refine pu_ HT_ ?_ | refine tk_ HT_ HW_ hHeld ?_)
        refine cg_ 29 (bmp 60 30) (some 36) Tryz.func30 #[.string a0_1] HT_ ?_
        with_reducible refine (idiomref07_script.calls k a0_1 true _ A14.out).mono ?_
        rintro e w' ⟨rfl, ⟨nd, rfl⟩⟩
        refine ⟨_, rfl, s5_ BK137, fun hHeld => nm_ ?_⟩
        iterate 3 (refine pu_ HT_ ?_)
        refine pg_ 35 (bm 60 42949672959) HT_ ?_
        refine tg_ 33 (bm 60 51539607551) HT_ HW_ hHeld ?_
        refine tg_ 36 (bm 60 120259084287) HT_ HW_ hHeld ?_
        refine cg_ 34 (bmp 60 37) (some 41) Tryz.func31 #[.string a0_1] HT_ ?_
        with_reducible refine (idiomref07_title.calls a0_1 t141 _ A16.out).mono ?_
        rintro e w25 ⟨rfl, hb⟩
        replace BK137 := Aside0.mk (blk_below (g := gb137) (o := .cells #[.string a0_0, .string a0_1, .string a0_2, .slice A0_3 l0_3.length c0_3, .slice A0_4 l0_4.length c0_4] 25 (0, 0)) (bk_ BK137) hb)
        replace HB := Aside0.mk (below_step (by repeat (first | (with_reducible first | exact HB.out | apply below_alloc | apply pw_below_drewN | apply below_drew1 | refine below_set ?_ GE137.out) | exact HB.out)) hb)
        (try clear hb)
        (try clear hb2)
        (try clear hk)
        (try clear hi)
        refine ⟨_, rfl, s5_ BK137, fun hHeld => nm_ ?_⟩
        iterate 11 (first | refine pu_ HT_ ?_ | refine tk_ HT_ HW_ hHeld ?_)
        refine cg_ 48 (bmp 60 49) (some 55) Tryz.func32 #[.string a0_2] HT_ ?_
        with_reducible refine (idiomref07_region.calls k a0_2 true _ A21.out).mono ?_
        rintro e w' ⟨rfl, ⟨nd, rfl⟩⟩
        refine ⟨_, rfl, s5_ BK137, fun hHeld => nm_ ?_⟩
        iterate 3 (refine pu_ HT_ ?_)
        refine pg_ 54 (bm 60 22517998136852479) HT_ ?_
        refine tg_ 52 (bm 60 27021597764222975) HT_ HW_ hHeld ?_
        refine tg_ 55 (bm 60 63050394783186943) HT_ HW_ hHeld ?_
        refine cg_ 53 (bmp 60 56) (some 60) Tryz.func33 #[.string a0_2] HT_ ?_
        with_reducible refine (idiomref07_great.calls a0_2 t143 _ A23.out).mono ?_
        rintro e w26 ⟨rfl, hb⟩
        replace BK137 := Aside0.mk (blk_below (g := gb137) (o := .cells #[.string a0_0, .string a0_1, .string a0_2, .slice A0_3 l0_3.length c0_3, .slice A0_4 l0_4.length c0_4] 25 (0, 0)) (bk_ BK137) hb)
        replace HB := Aside0.mk (below_step (by repeat (first | (with_reducible first | exact HB.out | apply below_alloc | apply pw_below_drewN | apply below_drew1 | refine below_set ?_ GE137.out) | exact HB.out)) hb)
        (try clear hb)
        (try clear hb2)
        (try clear hk)
        (try clear hi)
        refine ⟨_, rfl, s5_ BK137, fun hHeld => nm_ ?_⟩
        iterate 4 (refine pu_ HT_ ?_)
        refine dg_ HT_ ?_
        try go_wp2
        go_meet
        case rel => exact ⟨_, ((t143.toList != a0_2.toList)), (by first | rfl | (simp; done) | (simp [*]; done)), H', ⟨by first | omega | exact Nat.le_refl _⟩, ⟨by (with_reducible repeat (first | refine blk_drewN ?_ _ | refine blk_drew ?_ | refine blk_alloc ?_ _)); exact BK137.out⟩, ⟨by repeat (first | (with_reducible first | exact HB.out | apply below_alloc | apply pw_below_drewN | apply below_drew1 | refine below_set ?_ GE137.out) | exact HB.out)⟩⟩
       ·as_aux_lemma =>
        replace c22 := Bool.eq_false_iff.mpr c22
        subst c22
        have H1 : (idiomref07_Check.j0 k true a0_0 a0_1 a0_2 l0_3 l0_4) = some r := by rw [if_neg (show ¬ (false = true) by decide)] at H; exact H
        clear H
        have H := H1
        clear H1
        have H' := Aside0.mk H
        clear H
        try go_wp2
        replace BK137 := Aside0.mk (blk_drew BK137.out)
        replace HB := Aside0.mk (below_drew1 HB.out)
        refine st5_ 60 idiomref07_Check.tab1 idiomref07_Check.bits1 BK137 (fun hHeld HT_ HW_ => ?_)
        generalize w3.drew = w27 at BK137 HB hHeld ⊢
        iterate 29 (first | refine sk_ HT_ ?_ | refine pu_ HT_ ?_ | refine tk_ HT_ HW_ hHeld ?_)
        refine cg_ 29 (bmp 60 30) (some 36) Tryz.func30 #[.string a0_1] HT_ ?_
        with_reducible refine (idiomref07_script.calls k a0_1 true _ A14.out).mono ?_
        rintro e w' ⟨rfl, ⟨nd, rfl⟩⟩
        refine ⟨_, rfl, s5_ BK137, fun hHeld => nm_ ?_⟩
        iterate 3 (refine pu_ HT_ ?_)
        refine pg_ 35 (bm 60 42949672959) HT_ ?_
        refine tg_ 33 (bm 60 51539607551) HT_ HW_ hHeld ?_
        refine tg_ 36 (bm 60 120259084287) HT_ HW_ hHeld ?_
        refine cg_ 34 (bmp 60 37) (some 41) Tryz.func31 #[.string a0_1] HT_ ?_
        with_reducible refine (idiomref07_title.calls a0_1 t141 _ A16.out).mono ?_
        rintro e w28 ⟨rfl, hb⟩
        replace BK137 := Aside0.mk (blk_below (g := gb137) (o := .cells #[.string a0_0, .string a0_1, .string a0_2, .slice A0_3 l0_3.length c0_3, .slice A0_4 l0_4.length c0_4] 25 (0, 0)) (bk_ BK137) hb)
        replace HB := Aside0.mk (below_step (by repeat (first | (with_reducible first | exact HB.out | apply below_alloc | apply pw_below_drewN | apply below_drew1 | refine below_set ?_ GE137.out) | exact HB.out)) hb)
        (try clear hb)
        (try clear hb2)
        (try clear hk)
        (try clear hi)
        refine ⟨_, rfl, s5_ BK137, fun hHeld => nm_ ?_⟩
        iterate 11 (first | refine pu_ HT_ ?_ | refine tk_ HT_ HW_ hHeld ?_)
        refine cg_ 48 (bmp 60 49) (some 55) Tryz.func32 #[.string a0_2] HT_ ?_
        with_reducible refine (idiomref07_region.calls k a0_2 false _ A21.out).mono ?_
        rintro e w' ⟨rfl, ⟨nd, rfl⟩⟩
        refine ⟨_, rfl, s5_ BK137, fun hHeld => nm_ ?_⟩
        iterate 11 (first | refine sk_ HT_ ?_ | refine pu_ HT_ ?_)
        refine dg_ HT_ ?_
        try go_wp2
        go_meet
        case rel => exact ⟨_, (true), (by first | rfl | (simp; done) | (simp [*]; done)), H', ⟨by first | omega | exact Nat.le_refl _⟩, ⟨by (with_reducible repeat (first | refine blk_drewN ?_ _ | refine blk_drew ?_ | refine blk_alloc ?_ _)); exact BK137.out⟩, ⟨by repeat (first | (with_reducible first | exact HB.out | apply below_alloc | apply pw_below_drewN | apply below_drew1 | refine below_set ?_ GE137.out) | exact HB.out)⟩⟩
     ·as_aux_lemma =>
      rw [if_neg c17] at H
      have c17b0 : (t141.toList == a0_1.toList) = false := beq_eq_false_iff_ne.mpr c17
      have c17b1 : (t141.toList != a0_1.toList) = true := bne_iff_ne.mpr c17
      have H' := Aside0.mk H
      clear H
      try go_wp2
      replace BK137 := Aside0.mk (blk_drew BK137.out)
      replace HB := Aside0.mk (below_drew1 HB.out)
      refine st5_ 60 idiomref07_Check.tab1 idiomref07_Check.bits1 BK137 (fun hHeld HT_ HW_ => ?_)
      generalize w3.drew = w29 at BK137 HB hHeld ⊢
      iterate 29 (first | refine sk_ HT_ ?_ | refine pu_ HT_ ?_ | refine tk_ HT_ HW_ hHeld ?_)
      refine cg_ 29 (bmp 60 30) (some 36) Tryz.func30 #[.string a0_1] HT_ ?_
      with_reducible refine (idiomref07_script.calls k a0_1 true _ A14.out).mono ?_
      rintro e w' ⟨rfl, ⟨nd, rfl⟩⟩
      refine ⟨_, rfl, s5_ BK137, fun hHeld => nm_ ?_⟩
      iterate 3 (refine pu_ HT_ ?_)
      refine pg_ 35 (bm 60 42949672959) HT_ ?_
      refine tg_ 33 (bm 60 51539607551) HT_ HW_ hHeld ?_
      refine tg_ 36 (bm 60 120259084287) HT_ HW_ hHeld ?_
      refine cg_ 34 (bmp 60 37) (some 41) Tryz.func31 #[.string a0_1] HT_ ?_
      with_reducible refine (idiomref07_title.calls a0_1 t141 _ A16.out).mono ?_
      rintro e w30 ⟨rfl, hb⟩
      replace BK137 := Aside0.mk (blk_below (g := gb137) (o := .cells #[.string a0_0, .string a0_1, .string a0_2, .slice A0_3 l0_3.length c0_3, .slice A0_4 l0_4.length c0_4] 25 (0, 0)) (bk_ BK137) hb)
      replace HB := Aside0.mk (below_step (by repeat (first | (with_reducible first | exact HB.out | apply below_alloc | apply pw_below_drewN | apply below_drew1 | refine below_set ?_ GE137.out) | exact HB.out)) hb)
      (try clear hb)
      (try clear hb2)
      (try clear hk)
      (try clear hi)
      refine ⟨_, rfl, s5_ BK137, fun hHeld => nm_ ?_⟩
      iterate 23 (first | refine sk_ HT_ ?_ | refine pu_ HT_ ?_)
      refine dg_ HT_ ?_
      try go_wp2
      go_meet
      case rel => exact ⟨_, (true), (by first | rfl | (simp; done) | (simp [*]; done)), H', ⟨by first | omega | exact Nat.le_refl _⟩, ⟨by (with_reducible repeat (first | refine blk_drewN ?_ _ | refine blk_drew ?_ | refine blk_alloc ?_ _)); exact BK137.out⟩, ⟨by repeat (first | (with_reducible first | exact HB.out | apply below_alloc | apply pw_below_drewN | apply below_drew1 | refine below_set ?_ GE137.out) | exact HB.out)⟩⟩
    ·as_aux_lemma =>
     replace c15 := Bool.eq_false_iff.mpr c15
     subst c15
     have H1 : (idiomref07_Check.j0 k true a0_0 a0_1 a0_2 l0_3 l0_4) = some r := by rw [if_neg (show ¬ (false = true) by decide)] at H; exact H
     clear H
     have H := H1
     clear H1
     have H' := Aside0.mk H
     clear H
     try go_wp2
     replace BK137 := Aside0.mk (blk_drew BK137.out)
     replace HB := Aside0.mk (below_drew1 HB.out)
     refine st5_ 60 idiomref07_Check.tab1 idiomref07_Check.bits1 BK137 (fun hHeld HT_ HW_ => ?_)
     generalize w3.drew = w31 at BK137 HB hHeld ⊢
     iterate 29 (first | refine sk_ HT_ ?_ | refine pu_ HT_ ?_ | refine tk_ HT_ HW_ hHeld ?_)
     refine cg_ 29 (bmp 60 30) (some 36) Tryz.func30 #[.string a0_1] HT_ ?_
     with_reducible refine (idiomref07_script.calls k a0_1 false _ A14.out).mono ?_
     rintro e w' ⟨rfl, ⟨nd, rfl⟩⟩
     refine ⟨_, rfl, s5_ BK137, fun hHeld => nm_ ?_⟩
     iterate 30 (first | refine sk_ HT_ ?_ | refine pu_ HT_ ?_)
     refine dg_ HT_ ?_
     try go_wp2
     go_meet
     case rel => exact ⟨_, (true), (by first | rfl | (simp; done) | (simp [*]; done)), H', ⟨by first | omega | exact Nat.le_refl _⟩, ⟨by (with_reducible repeat (first | refine blk_drewN ?_ _ | refine blk_drew ?_ | refine blk_alloc ?_ _)); exact BK137.out⟩, ⟨by repeat (first | (with_reducible first | exact HB.out | apply below_alloc | apply pw_below_drewN | apply below_drew1 | refine below_set ?_ GE137.out) | exact HB.out)⟩⟩
  ·as_aux_lemma =>
   rw [if_neg c4] at H
   have c4b0 : (a0_0.toList == ([] : List UInt8)) = false := beq_eq_false_iff_ne.mpr c4
   have c4b1 : (a0_0.toList != ([] : List UInt8)) = true := bne_iff_ne.mpr c4
   have c4b2 : a0_0.toList.isEmpty = false := List.isEmpty_eq_false_iff.mpr c4
   (first | rw [c4b0] | rw [c4b1] | rw [c4b2] | (simp only [i64_w, i32_w]; rw [c4b0]) | skip)
   (try simp only [Bool.not_true, Bool.not_false])
   replace H := Option.bind_eq_some_iff.mp H
   obtain ⟨t144, A320, H⟩ := H
   try dsimp only at H
   have A32 := Aside0.mk A320
   clear A320
   by_cases c33 : t144 = true
   ·as_aux_lemma =>
    subst c33
    have H1 : ((idiomref07_Small.f a0_0).bind fun t145 => (if t145.toList = a0_0.toList then (if a0_0.toList = ([117, 110, 100] : List UInt8) then (idiomref07_Check.j0 k true a0_0 a0_1 a0_2 l0_3 l0_4) else (if a0_1.toList = ([] : List UInt8) then (if a0_2.toList = ([] : List UInt8) then (idiomref07_Check.j0 k false a0_0 a0_1 a0_2 l0_3 l0_4) else ((idiomref07_region.f k a0_2).bind fun t146 => (if t146 = true then ((idiomref07_great.f a0_2).bind fun t147 => (idiomref07_Check.j0 k (t147.toList != a0_2.toList) a0_0 a0_1 a0_2 l0_3 l0_4)) else (idiomref07_Check.j0 k true a0_0 a0_1 a0_2 l0_3 l0_4)))) else ((idiomref07_script.f k a0_1).bind fun t148 => (if t148 = true then ((idiomref07_title.f a0_1).bind fun t149 => (if t149.toList = a0_1.toList then (if a0_2.toList = ([] : List UInt8) then (idiomref07_Check.j0 k false a0_0 a0_1 a0_2 l0_3 l0_4) else ((idiomref07_region.f k a0_2).bind fun t150 => (if t150 = true then ((idiomref07_great.f a0_2).bind fun t151 => (idiomref07_Check.j0 k (t151.toList != a0_2.toList) a0_0 a0_1 a0_2 l0_3 l0_4)) else (idiomref07_Check.j0 k true a0_0 a0_1 a0_2 l0_3 l0_4)))) else (idiomref07_Check.j0 k true a0_0 a0_1 a0_2 l0_3 l0_4))) else (idiomref07_Check.j0 k true a0_0 a0_1 a0_2 l0_3 l0_4))))) else (idiomref07_Check.j0 k true a0_0 a0_1 a0_2 l0_3 l0_4))) = some r := by rw [if_pos rfl] at H; exact H
    clear H
    have H := H1
    clear H1
    replace H := Option.bind_eq_some_iff.mp H
    obtain ⟨t145, A340, H⟩ := H
    try dsimp only at H
    have A34 := Aside0.mk A340
    clear A340
    by_cases c35 : t145.toList = a0_0.toList
    ·as_aux_lemma =>
     rw [if_pos c35] at H
     have c35b0 : (t145.toList == a0_0.toList) = true := beq_iff_eq.mpr c35
     have c35b1 : (t145.toList != a0_0.toList) = false := bne_eq_false_iff_eq.mpr c35
     clear c35
     by_cases c36 : a0_0.toList = ([117, 110, 100] : List UInt8)
     ·as_aux_lemma =>
      rw [if_pos c36] at H
      have c36b0 : (a0_0.toList == ([117, 110, 100] : List UInt8)) = true := beq_iff_eq.mpr c36
      have c36b1 : (a0_0.toList != ([117, 110, 100] : List UInt8)) = false := bne_eq_false_iff_eq.mpr c36
      clear c36
      have H' := Aside0.mk H
      clear H
      try go_wp2
      replace BK137 := Aside0.mk (blk_drew BK137.out)
      replace HB := Aside0.mk (below_drew1 HB.out)
      refine st5_ 60 idiomref07_Check.tab1 idiomref07_Check.bits1 BK137 (fun hHeld HT_ HW_ => ?_)
      generalize w3.drew = w37 at BK137 HB hHeld ⊢
      iterate 6 (first | refine pu_ HT_ ?_ | refine tk_ HT_ HW_ hHeld ?_)
      refine cg_ 6 (bmp 60 7) (some 13) Tryz.func28 #[.string a0_0] HT_ ?_
      with_reducible refine (idiomref07_lang.calls k a0_0 true _ A32.out).mono ?_
      rintro e w' ⟨rfl, ⟨nd, rfl⟩⟩
      refine ⟨_, rfl, s5_ BK137, fun hHeld => nm_ ?_⟩
      iterate 3 (refine pu_ HT_ ?_)
      refine pg_ 12 (bm 60 5119) HT_ ?_
      refine tg_ 10 (bm 60 6143) HT_ HW_ hHeld ?_
      refine tg_ 13 (bm 60 14335) HT_ HW_ hHeld ?_
      refine cg_ 11 (bmp 60 14) (some 18) Tryz.func29 #[.string a0_0] HT_ ?_
      with_reducible refine (idiomref07_Small.calls a0_0 t145 _ A34.out).mono ?_
      rintro e w38 ⟨rfl, hb⟩
      replace BK137 := Aside0.mk (blk_below (g := gb137) (o := .cells #[.string a0_0, .string a0_1, .string a0_2, .slice A0_3 l0_3.length c0_3, .slice A0_4 l0_4.length c0_4] 25 (0, 0)) (bk_ BK137) hb)
      replace HB := Aside0.mk (below_step (by repeat (first | (with_reducible first | exact HB.out | apply below_alloc | apply pw_below_drewN | apply below_drew1 | refine below_set ?_ GE137.out) | exact HB.out)) hb)
      (try clear hb)
      (try clear hb2)
      (try clear hk)
      (try clear hi)
      refine ⟨_, rfl, s5_ BK137, fun hHeld => nm_ ?_⟩
      iterate 46 (first | refine sk_ HT_ ?_ | refine pu_ HT_ ?_ | refine tk_ HT_ HW_ hHeld ?_)
      refine dg_ HT_ ?_
      try go_wp2
      go_meet
      case rel => exact ⟨_, (true), (by first | rfl | (simp; done) | (simp [*]; done)), H', ⟨by first | omega | exact Nat.le_refl _⟩, ⟨by (with_reducible repeat (first | refine blk_drewN ?_ _ | refine blk_drew ?_ | refine blk_alloc ?_ _)); exact BK137.out⟩, ⟨by repeat (first | (with_reducible first | exact HB.out | apply below_alloc | apply pw_below_drewN | apply below_drew1 | refine below_set ?_ GE137.out) | exact HB.out)⟩⟩
     ·as_aux_lemma =>
      rw [if_neg c36] at H
      have c36b0 : (a0_0.toList == ([117, 110, 100] : List UInt8)) = false := beq_eq_false_iff_ne.mpr c36
      have c36b1 : (a0_0.toList != ([117, 110, 100] : List UInt8)) = true := bne_iff_ne.mpr c36
      by_cases c39 : a0_1.toList = ([] : List UInt8)
      ·as_aux_lemma =>
       rw [if_pos c39] at H
       have c39b0 : (a0_1.toList == ([] : List UInt8)) = true := beq_iff_eq.mpr c39
       have c39b1 : (a0_1.toList != ([] : List UInt8)) = false := bne_eq_false_iff_eq.mpr c39
       have c39b2 : a0_1.toList.isEmpty = true := List.isEmpty_iff.mpr c39
       clear c39
       by_cases c40 : a0_2.toList = ([] : List UInt8)
       ·as_aux_lemma =>
        rw [if_pos c40] at H
        have c40b0 : (a0_2.toList == ([] : List UInt8)) = true := beq_iff_eq.mpr c40
        have c40b1 : (a0_2.toList != ([] : List UInt8)) = false := bne_eq_false_iff_eq.mpr c40
        have c40b2 : a0_2.toList.isEmpty = true := List.isEmpty_iff.mpr c40
        clear c40
        have H' := Aside0.mk H
        clear H
        try go_wp2
        replace BK137 := Aside0.mk (blk_drew BK137.out)
        replace HB := Aside0.mk (below_drew1 HB.out)
        refine st5_ 60 idiomref07_Check.tab1 idiomref07_Check.bits1 BK137 (fun hHeld HT_ HW_ => ?_)
        generalize w3.drew = w41 at BK137 HB hHeld ⊢
        iterate 6 (first | refine pu_ HT_ ?_ | refine tk_ HT_ HW_ hHeld ?_)
        refine cg_ 6 (bmp 60 7) (some 13) Tryz.func28 #[.string a0_0] HT_ ?_
        with_reducible refine (idiomref07_lang.calls k a0_0 true _ A32.out).mono ?_
        rintro e w' ⟨rfl, ⟨nd, rfl⟩⟩
        refine ⟨_, rfl, s5_ BK137, fun hHeld => nm_ ?_⟩
        iterate 3 (refine pu_ HT_ ?_)
        refine pg_ 12 (bm 60 5119) HT_ ?_
        refine tg_ 10 (bm 60 6143) HT_ HW_ hHeld ?_
        refine tg_ 13 (bm 60 14335) HT_ HW_ hHeld ?_
        refine cg_ 11 (bmp 60 14) (some 18) Tryz.func29 #[.string a0_0] HT_ ?_
        with_reducible refine (idiomref07_Small.calls a0_0 t145 _ A34.out).mono ?_
        rintro e w42 ⟨rfl, hb⟩
        replace BK137 := Aside0.mk (blk_below (g := gb137) (o := .cells #[.string a0_0, .string a0_1, .string a0_2, .slice A0_3 l0_3.length c0_3, .slice A0_4 l0_4.length c0_4] 25 (0, 0)) (bk_ BK137) hb)
        replace HB := Aside0.mk (below_step (by repeat (first | (with_reducible first | exact HB.out | apply below_alloc | apply pw_below_drewN | apply below_drew1 | refine below_set ?_ GE137.out) | exact HB.out)) hb)
        (try clear hb)
        (try clear hb2)
        (try clear hk)
        (try clear hi)
        refine ⟨_, rfl, s5_ BK137, fun hHeld => nm_ ?_⟩
        iterate 46 (first | refine sk_ HT_ ?_ | refine pu_ HT_ ?_ | refine tk_ HT_ HW_ hHeld ?_)
        refine dg_ HT_ ?_
        try go_wp2
        go_meet
        case rel => exact ⟨_, (false), (by first | rfl | (simp; done) | (simp [*]; done)), H', ⟨by first | omega | exact Nat.le_refl _⟩, ⟨by (with_reducible repeat (first | refine blk_drewN ?_ _ | refine blk_drew ?_ | refine blk_alloc ?_ _)); exact BK137.out⟩, ⟨by repeat (first | (with_reducible first | exact HB.out | apply below_alloc | apply pw_below_drewN | apply below_drew1 | refine below_set ?_ GE137.out) | exact HB.out)⟩⟩
       ·as_aux_lemma =>
        rw [if_neg c40] at H
        have c40b0 : (a0_2.toList == ([] : List UInt8)) = false := beq_eq_false_iff_ne.mpr c40
        have c40b1 : (a0_2.toList != ([] : List UInt8)) = true := bne_iff_ne.mpr c40
        have c40b2 : a0_2.toList.isEmpty = false := List.isEmpty_eq_false_iff.mpr c40
        replace H := Option.bind_eq_some_iff.mp H
        obtain ⟨t146, A430, H⟩ := H
        try dsimp only at H
        have A43 := Aside0.mk A430
        clear A430
        by_cases c44 : t146 = true
        ·as_aux_lemma =>
         subst c44
         have H1 : ((idiomref07_great.f a0_2).bind fun t147 => (idiomref07_Check.j0 k (t147.toList != a0_2.toList) a0_0 a0_1 a0_2 l0_3 l0_4)) = some r := by rw [if_pos rfl] at H; exact H
         clear H
         have H := H1
         clear H1
         replace H := Option.bind_eq_some_iff.mp H
         obtain ⟨t147, A450, H⟩ := H
         try dsimp only at H
         have A45 := Aside0.mk A450
         clear A450
         have H' := Aside0.mk H
         clear H
         try go_wp2
         replace BK137 := Aside0.mk (blk_drew BK137.out)
         replace HB := Aside0.mk (below_drew1 HB.out)
         refine st5_ 60 idiomref07_Check.tab1 idiomref07_Check.bits1 BK137 (fun hHeld HT_ HW_ => ?_)
         generalize w3.drew = w46 at BK137 HB hHeld ⊢
         iterate 6 (first | refine pu_ HT_ ?_ | refine tk_ HT_ HW_ hHeld ?_)
         refine cg_ 6 (bmp 60 7) (some 13) Tryz.func28 #[.string a0_0] HT_ ?_
         with_reducible refine (idiomref07_lang.calls k a0_0 true _ A32.out).mono ?_
         rintro e w' ⟨rfl, ⟨nd, rfl⟩⟩
         refine ⟨_, rfl, s5_ BK137, fun hHeld => nm_ ?_⟩
         iterate 3 (refine pu_ HT_ ?_)
         refine pg_ 12 (bm 60 5119) HT_ ?_
         refine tg_ 10 (bm 60 6143) HT_ HW_ hHeld ?_
         refine tg_ 13 (bm 60 14335) HT_ HW_ hHeld ?_
         refine cg_ 11 (bmp 60 14) (some 18) Tryz.func29 #[.string a0_0] HT_ ?_
         with_reducible refine (idiomref07_Small.calls a0_0 t145 _ A34.out).mono ?_
         rintro e w47 ⟨rfl, hb⟩
         replace BK137 := Aside0.mk (blk_below (g := gb137) (o := .cells #[.string a0_0, .string a0_1, .string a0_2, .slice A0_3 l0_3.length c0_3, .slice A0_4 l0_4.length c0_4] 25 (0, 0)) (bk_ BK137) hb)
         replace HB := Aside0.mk (below_step (by repeat (first | (with_reducible first | exact HB.out | apply below_alloc | apply pw_below_drewN | apply below_drew1 | refine below_set ?_ GE137.out) | exact HB.out)) hb)
         (try clear hb)
         (try clear hb2)
         (try clear hk)
         (try clear hi)
         refine ⟨_, rfl, s5_ BK137, fun hHeld => nm_ ?_⟩
         iterate 34 (first | refine sk_ HT_ ?_ | refine pu_ HT_ ?_ | refine tk_ HT_ HW_ hHeld ?_)
         refine cg_ 48 (bmp 60 49) (some 55) Tryz.func32 #[.string a0_2] HT_ ?_
         with_reducible refine (idiomref07_region.calls k a0_2 true _ A43.out).mono ?_
         rintro e w' ⟨rfl, ⟨nd, rfl⟩⟩
         refine ⟨_, rfl, s5_ BK137, fun hHeld => nm_ ?_⟩
         iterate 3 (refine pu_ HT_ ?_)
         refine pg_ 54 (bm 60 22517998136852479) HT_ ?_
         refine tg_ 52 (bm 60 27021597764222975) HT_ HW_ hHeld ?_
         refine tg_ 55 (bm 60 63050394783186943) HT_ HW_ hHeld ?_
         refine cg_ 53 (bmp 60 56) (some 60) Tryz.func33 #[.string a0_2] HT_ ?_
         with_reducible refine (idiomref07_great.calls a0_2 t147 _ A45.out).mono ?_
         rintro e w48 ⟨rfl, hb⟩
         replace BK137 := Aside0.mk (blk_below (g := gb137) (o := .cells #[.string a0_0, .string a0_1, .string a0_2, .slice A0_3 l0_3.length c0_3, .slice A0_4 l0_4.length c0_4] 25 (0, 0)) (bk_ BK137) hb)
         replace HB := Aside0.mk (below_step (by repeat (first | (with_reducible first | exact HB.out | apply below_alloc | apply pw_below_drewN | apply below_drew1 | refine below_set ?_ GE137.out) | exact HB.out)) hb)
         (try clear hb)
         (try clear hb2)
         (try clear hk)
         (try clear hi)
         refine ⟨_, rfl, s5_ BK137, fun hHeld => nm_ ?_⟩
         iterate 4 (refine pu_ HT_ ?_)
         refine dg_ HT_ ?_
         try go_wp2
         go_meet
         case rel => exact ⟨_, ((t147.toList != a0_2.toList)), (by first | rfl | (simp; done) | (simp [*]; done)), H', ⟨by first | omega | exact Nat.le_refl _⟩, ⟨by (with_reducible repeat (first | refine blk_drewN ?_ _ | refine blk_drew ?_ | refine blk_alloc ?_ _)); exact BK137.out⟩, ⟨by repeat (first | (with_reducible first | exact HB.out | apply below_alloc | apply pw_below_drewN | apply below_drew1 | refine below_set ?_ GE137.out) | exact HB.out)⟩⟩
        ·as_aux_lemma =>
         replace c44 := Bool.eq_false_iff.mpr c44
         subst c44
         have H1 : (idiomref07_Check.j0 k true a0_0 a0_1 a0_2 l0_3 l0_4) = some r := by rw [if_neg (show ¬ (false = true) by decide)] at H; exact H
         clear H
         have H := H1
         clear H1
         have H' := Aside0.mk H
         clear H
         try go_wp2
         replace BK137 := Aside0.mk (blk_drew BK137.out)
         replace HB := Aside0.mk (below_drew1 HB.out)
         refine st5_ 60 idiomref07_Check.tab1 idiomref07_Check.bits1 BK137 (fun hHeld HT_ HW_ => ?_)
         generalize w3.drew = w49 at BK137 HB hHeld ⊢
         iterate 6 (first | refine pu_ HT_ ?_ | refine tk_ HT_ HW_ hHeld ?_)
         refine cg_ 6 (bmp 60 7) (some 13) Tryz.func28 #[.string a0_0] HT_ ?_
         with_reducible refine (idiomref07_lang.calls k a0_0 true _ A32.out).mono ?_
         rintro e w' ⟨rfl, ⟨nd, rfl⟩⟩
         refine ⟨_, rfl, s5_ BK137, fun hHeld => nm_ ?_⟩
         iterate 3 (refine pu_ HT_ ?_)
         refine pg_ 12 (bm 60 5119) HT_ ?_
         refine tg_ 10 (bm 60 6143) HT_ HW_ hHeld ?_
         refine tg_ 13 (bm 60 14335) HT_ HW_ hHeld ?_
         refine cg_ 11 (bmp 60 14) (some 18) Tryz.func29 #[.string a0_0] HT_ ?_
         with_reducible refine (idiomref07_Small.calls a0_0 t145 _ A34.out).mono ?_
         rintro e w50 ⟨rfl, hb⟩
         replace BK137 := Aside0.mk (blk_below (g := gb137) (o := .cells #[.string a0_0, .string a0_1, .string a0_2, .slice A0_3 l0_3.length c0_3, .slice A0_4 l0_4.length c0_4] 25 (0, 0)) (bk_ BK137) hb)
         replace HB := Aside0.mk (below_step (by repeat (first | (with_reducible first | exact HB.out | apply below_alloc | apply pw_below_drewN | apply below_drew1 | refine below_set ?_ GE137.out) | exact HB.out)) hb)
         (try clear hb)
         (try clear hb2)
         (try clear hk)
         (try clear hi)
         refine ⟨_, rfl, s5_ BK137, fun hHeld => nm_ ?_⟩
         iterate 34 (first | refine sk_ HT_ ?_ | refine pu_ HT_ ?_ | refine tk_ HT_ HW_ hHeld ?_)
         refine cg_ 48 (bmp 60 49) (some 55) Tryz.func32 #[.string a0_2] HT_ ?_
         with_reducible refine (idiomref07_region.calls k a0_2 false _ A43.out).mono ?_
         rintro e w' ⟨rfl, ⟨nd, rfl⟩⟩
         refine ⟨_, rfl, s5_ BK137, fun hHeld => nm_ ?_⟩
         iterate 11 (first | refine sk_ HT_ ?_ | refine pu_ HT_ ?_)
         refine dg_ HT_ ?_
         try go_wp2
         go_meet
         case rel => exact ⟨_, (true), (by first | rfl | (simp; done) | (simp [*]; done)), H', ⟨by first | omega | exact Nat.le_refl _⟩, ⟨by (with_reducible repeat (first | refine blk_drewN ?_ _ | refine blk_drew ?_ | refine blk_alloc ?_ _)); exact BK137.out⟩, ⟨by repeat (first | (with_reducible first | exact HB.out | apply below_alloc | apply pw_below_drewN | apply below_drew1 | refine below_set ?_ GE137.out) | exact HB.out)⟩⟩
      ·as_aux_lemma =>
       rw [if_neg c39] at H
       have c39b0 : (a0_1.toList == ([] : List UInt8)) = false := beq_eq_false_iff_ne.mpr c39
       have c39b1 : (a0_1.toList != ([] : List UInt8)) = true := bne_iff_ne.mpr c39
       have c39b2 : a0_1.toList.isEmpty = false := List.isEmpty_eq_false_iff.mpr c39
       replace H := Option.bind_eq_some_iff.mp H
       obtain ⟨t148, A510, H⟩ := H
       try dsimp only at H
       have A51 := Aside0.mk A510
       clear A510
       by_cases c52 : t148 = true
       ·as_aux_lemma =>
        subst c52
        have H1 : ((idiomref07_title.f a0_1).bind fun t149 => (if t149.toList = a0_1.toList then (if a0_2.toList = ([] : List UInt8) then (idiomref07_Check.j0 k false a0_0 a0_1 a0_2 l0_3 l0_4) else ((idiomref07_region.f k a0_2).bind fun t150 => (if t150 = true then ((idiomref07_great.f a0_2).bind fun t151 => (idiomref07_Check.j0 k (t151.toList != a0_2.toList) a0_0 a0_1 a0_2 l0_3 l0_4)) else (idiomref07_Check.j0 k true a0_0 a0_1 a0_2 l0_3 l0_4)))) else (idiomref07_Check.j0 k true a0_0 a0_1 a0_2 l0_3 l0_4))) = some r := by rw [if_pos rfl] at H; exact H
        clear H
        have H := H1
        clear H1
        replace H := Option.bind_eq_some_iff.mp H
        obtain ⟨t149, A530, H⟩ := H
        try dsimp only at H
        have A53 := Aside0.mk A530
        clear A530
        by_cases c54 : t149.toList = a0_1.toList
        ·as_aux_lemma =>
         rw [if_pos c54] at H
         have c54b0 : (t149.toList == a0_1.toList) = true := beq_iff_eq.mpr c54
         have c54b1 : (t149.toList != a0_1.toList) = false := bne_eq_false_iff_eq.mpr c54
         clear c54
         by_cases c55 : a0_2.toList = ([] : List UInt8)
         ·as_aux_lemma =>
          rw [if_pos c55] at H
          have c55b0 : (a0_2.toList == ([] : List UInt8)) = true := beq_iff_eq.mpr c55
          have c55b1 : (a0_2.toList != ([] : List UInt8)) = false := bne_eq_false_iff_eq.mpr c55
          have c55b2 : a0_2.toList.isEmpty = true := List.isEmpty_iff.mpr c55
          clear c55
          have H' := Aside0.mk H
          clear H
          try go_wp2
          replace BK137 := Aside0.mk (blk_drew BK137.out)
          replace HB := Aside0.mk (below_drew1 HB.out)
          refine st5_ 60 idiomref07_Check.tab1 idiomref07_Check.bits1 BK137 (fun hHeld HT_ HW_ => ?_)
          generalize w3.drew = w56 at BK137 HB hHeld ⊢
          iterate 6 (first | refine pu_ HT_ ?_ | refine tk_ HT_ HW_ hHeld ?_)
          refine cg_ 6 (bmp 60 7) (some 13) Tryz.func28 #[.string a0_0] HT_ ?_
          with_reducible refine (idiomref07_lang.calls k a0_0 true _ A32.out).mono ?_
          rintro e w' ⟨rfl, ⟨nd, rfl⟩⟩
          refine ⟨_, rfl, s5_ BK137, fun hHeld => nm_ ?_⟩
          iterate 3 (refine pu_ HT_ ?_)
          refine pg_ 12 (bm 60 5119) HT_ ?_
          refine tg_ 10 (bm 60 6143) HT_ HW_ hHeld ?_
          refine tg_ 13 (bm 60 14335) HT_ HW_ hHeld ?_
          refine cg_ 11 (bmp 60 14) (some 18) Tryz.func29 #[.string a0_0] HT_ ?_
          with_reducible refine (idiomref07_Small.calls a0_0 t145 _ A34.out).mono ?_
          rintro e w57 ⟨rfl, hb⟩
          replace BK137 := Aside0.mk (blk_below (g := gb137) (o := .cells #[.string a0_0, .string a0_1, .string a0_2, .slice A0_3 l0_3.length c0_3, .slice A0_4 l0_4.length c0_4] 25 (0, 0)) (bk_ BK137) hb)
          replace HB := Aside0.mk (below_step (by repeat (first | (with_reducible first | exact HB.out | apply below_alloc | apply pw_below_drewN | apply below_drew1 | refine below_set ?_ GE137.out) | exact HB.out)) hb)
          (try clear hb)
          (try clear hb2)
          (try clear hk)
          (try clear hi)
          refine ⟨_, rfl, s5_ BK137, fun hHeld => nm_ ?_⟩
          iterate 15 (first | refine pu_ HT_ ?_ | refine tk_ HT_ HW_ hHeld ?_)
          refine cg_ 29 (bmp 60 30) (some 36) Tryz.func30 #[.string a0_1] HT_ ?_
          with_reducible refine (idiomref07_script.calls k a0_1 true _ A51.out).mono ?_
          rintro e w' ⟨rfl, ⟨nd, rfl⟩⟩
          refine ⟨_, rfl, s5_ BK137, fun hHeld => nm_ ?_⟩
          iterate 3 (refine pu_ HT_ ?_)
          refine pg_ 35 (bm 60 42949672959) HT_ ?_
          refine tg_ 33 (bm 60 51539607551) HT_ HW_ hHeld ?_
          refine tg_ 36 (bm 60 120259084287) HT_ HW_ hHeld ?_
          refine cg_ 34 (bmp 60 37) (some 41) Tryz.func31 #[.string a0_1] HT_ ?_
          with_reducible refine (idiomref07_title.calls a0_1 t149 _ A53.out).mono ?_
          rintro e w58 ⟨rfl, hb⟩
          replace BK137 := Aside0.mk (blk_below (g := gb137) (o := .cells #[.string a0_0, .string a0_1, .string a0_2, .slice A0_3 l0_3.length c0_3, .slice A0_4 l0_4.length c0_4] 25 (0, 0)) (bk_ BK137) hb)
          replace HB := Aside0.mk (below_step (by repeat (first | (with_reducible first | exact HB.out | apply below_alloc | apply pw_below_drewN | apply below_drew1 | refine below_set ?_ GE137.out) | exact HB.out)) hb)
          (try clear hb)
          (try clear hb2)
          (try clear hk)
          (try clear hi)
          refine ⟨_, rfl, s5_ BK137, fun hHeld => nm_ ?_⟩
          iterate 23 (first | refine sk_ HT_ ?_ | refine pu_ HT_ ?_ | refine tk_ HT_ HW_ hHeld ?_)
          refine dg_ HT_ ?_
          try go_wp2
          go_meet
          case rel => exact ⟨_, (false), (by first | rfl | (simp; done) | (simp [*]; done)), H', ⟨by first | omega | exact Nat.le_refl _⟩, ⟨by (with_reducible repeat (first | refine blk_drewN ?_ _ | refine blk_drew ?_ | refine blk_alloc ?_ _)); exact BK137.out⟩, ⟨by repeat (first | (with_reducible first | exact HB.out | apply below_alloc | apply pw_below_drewN | apply below_drew1 | refine below_set ?_ GE137.out) | exact HB.out)⟩⟩
         ·as_aux_lemma =>
          rw [if_neg c55] at H
          have c55b0 : (a0_2.toList == ([] : List UInt8)) = false := beq_eq_false_iff_ne.mpr c55
          have c55b1 : (a0_2.toList != ([] : List UInt8)) = true := bne_iff_ne.mpr c55
          have c55b2 : a0_2.toList.isEmpty = false := List.isEmpty_eq_false_iff.mpr c55
          replace H := Option.bind_eq_some_iff.mp H
          obtain ⟨t150, A590, H⟩ := H
          try dsimp only at H
          have A59 := Aside0.mk A590
          clear A590
          by_cases c60 : t150 = true
          ·as_aux_lemma =>
           subst c60
           have H1 : ((idiomref07_great.f a0_2).bind fun t151 => (idiomref07_Check.j0 k (t151.toList != a0_2.toList) a0_0 a0_1 a0_2 l0_3 l0_4)) = some r := by rw [if_pos rfl] at H; exact H
           clear H
           have H := H1
           clear H1
           replace H := Option.bind_eq_some_iff.mp H
           obtain ⟨t151, A610, H⟩ := H
           try dsimp only at H
           have A61 := Aside0.mk A610
           clear A610
           have H' := Aside0.mk H
           clear H
           try go_wp2
           replace BK137 := Aside0.mk (blk_drew BK137.out)
           replace HB := Aside0.mk (below_drew1 HB.out)
           refine st5_ 60 idiomref07_Check.tab1 idiomref07_Check.bits1 BK137 (fun hHeld HT_ HW_ => ?_)
           generalize w3.drew = w62 at BK137 HB hHeld ⊢
           iterate 6 (first | refine pu_ HT_ ?_ | refine tk_ HT_ HW_ hHeld ?_)
           refine cg_ 6 (bmp 60 7) (some 13) Tryz.func28 #[.string a0_0] HT_ ?_
           with_reducible refine (idiomref07_lang.calls k a0_0 true _ A32.out).mono ?_
           rintro e w' ⟨rfl, ⟨nd, rfl⟩⟩
           refine ⟨_, rfl, s5_ BK137, fun hHeld => nm_ ?_⟩
           iterate 3 (refine pu_ HT_ ?_)
           refine pg_ 12 (bm 60 5119) HT_ ?_
           refine tg_ 10 (bm 60 6143) HT_ HW_ hHeld ?_
           refine tg_ 13 (bm 60 14335) HT_ HW_ hHeld ?_
           refine cg_ 11 (bmp 60 14) (some 18) Tryz.func29 #[.string a0_0] HT_ ?_
           with_reducible refine (idiomref07_Small.calls a0_0 t145 _ A34.out).mono ?_
           rintro e w63 ⟨rfl, hb⟩
           replace BK137 := Aside0.mk (blk_below (g := gb137) (o := .cells #[.string a0_0, .string a0_1, .string a0_2, .slice A0_3 l0_3.length c0_3, .slice A0_4 l0_4.length c0_4] 25 (0, 0)) (bk_ BK137) hb)
           replace HB := Aside0.mk (below_step (by repeat (first | (with_reducible first | exact HB.out | apply below_alloc | apply pw_below_drewN | apply below_drew1 | refine below_set ?_ GE137.out) | exact HB.out)) hb)
           (try clear hb)
           (try clear hb2)
           (try clear hk)
           (try clear hi)
           refine ⟨_, rfl, s5_ BK137, fun hHeld => nm_ ?_⟩
           iterate 15 (first | refine pu_ HT_ ?_ | refine tk_ HT_ HW_ hHeld ?_)
           refine cg_ 29 (bmp 60 30) (some 36) Tryz.func30 #[.string a0_1] HT_ ?_
           with_reducible refine (idiomref07_script.calls k a0_1 true _ A51.out).mono ?_
           rintro e w' ⟨rfl, ⟨nd, rfl⟩⟩
           refine ⟨_, rfl, s5_ BK137, fun hHeld => nm_ ?_⟩
           iterate 3 (refine pu_ HT_ ?_)
           refine pg_ 35 (bm 60 42949672959) HT_ ?_
           refine tg_ 33 (bm 60 51539607551) HT_ HW_ hHeld ?_
           refine tg_ 36 (bm 60 120259084287) HT_ HW_ hHeld ?_
           refine cg_ 34 (bmp 60 37) (some 41) Tryz.func31 #[.string a0_1] HT_ ?_
           with_reducible refine (idiomref07_title.calls a0_1 t149 _ A53.out).mono ?_
           rintro e w64 ⟨rfl, hb⟩
           replace BK137 := Aside0.mk (blk_below (g := gb137) (o := .cells #[.string a0_0, .string a0_1, .string a0_2, .slice A0_3 l0_3.length c0_3, .slice A0_4 l0_4.length c0_4] 25 (0, 0)) (bk_ BK137) hb)
           replace HB := Aside0.mk (below_step (by repeat (first | (with_reducible first | exact HB.out | apply below_alloc | apply pw_below_drewN | apply below_drew1 | refine below_set ?_ GE137.out) | exact HB.out)) hb)
           (try clear hb)
           (try clear hb2)
           (try clear hk)
           (try clear hi)
           refine ⟨_, rfl, s5_ BK137, fun hHeld => nm_ ?_⟩
           iterate 11 (first | refine pu_ HT_ ?_ | refine tk_ HT_ HW_ hHeld ?_)
           refine cg_ 48 (bmp 60 49) (some 55) Tryz.func32 #[.string a0_2] HT_ ?_
           with_reducible refine (idiomref07_region.calls k a0_2 true _ A59.out).mono ?_
           rintro e w' ⟨rfl, ⟨nd, rfl⟩⟩
           refine ⟨_, rfl, s5_ BK137, fun hHeld => nm_ ?_⟩
           iterate 3 (refine pu_ HT_ ?_)
           refine pg_ 54 (bm 60 22517998136852479) HT_ ?_
           refine tg_ 52 (bm 60 27021597764222975) HT_ HW_ hHeld ?_
           refine tg_ 55 (bm 60 63050394783186943) HT_ HW_ hHeld ?_
           refine cg_ 53 (bmp 60 56) (some 60) Tryz.func33 #[.string a0_2] HT_ ?_
           with_reducible refine (idiomref07_great.calls a0_2 t151 _ A61.out).mono ?_
           rintro e w65 ⟨rfl, hb⟩
           replace BK137 := Aside0.mk (blk_below (g := gb137) (o := .cells #[.string a0_0, .string a0_1, .string a0_2, .slice A0_3 l0_3.length c0_3, .slice A0_4 l0_4.length c0_4] 25 (0, 0)) (bk_ BK137) hb)
           replace HB := Aside0.mk (below_step (by repeat (first | (with_reducible first | exact HB.out | apply below_alloc | apply pw_below_drewN | apply below_drew1 | refine below_set ?_ GE137.out) | exact HB.out)) hb)
           (try clear hb)
           (try clear hb2)
           (try clear hk)
           (try clear hi)
           refine ⟨_, rfl, s5_ BK137, fun hHeld => nm_ ?_⟩
           iterate 4 (refine pu_ HT_ ?_)
           refine dg_ HT_ ?_
           try go_wp2
           go_meet
           case rel => exact ⟨_, ((t151.toList != a0_2.toList)), (by first | rfl | (simp; done) | (simp [*]; done)), H', ⟨by first | omega | exact Nat.le_refl _⟩, ⟨by (with_reducible repeat (first | refine blk_drewN ?_ _ | refine blk_drew ?_ | refine blk_alloc ?_ _)); exact BK137.out⟩, ⟨by repeat (first | (with_reducible first | exact HB.out | apply below_alloc | apply pw_below_drewN | apply below_drew1 | refine below_set ?_ GE137.out) | exact HB.out)⟩⟩
          ·as_aux_lemma =>
           replace c60 := Bool.eq_false_iff.mpr c60
           subst c60
           have H1 : (idiomref07_Check.j0 k true a0_0 a0_1 a0_2 l0_3 l0_4) = some r := by rw [if_neg (show ¬ (false = true) by decide)] at H; exact H
           clear H
           have H := H1
           clear H1
           have H' := Aside0.mk H
           clear H
           try go_wp2
           replace BK137 := Aside0.mk (blk_drew BK137.out)
           replace HB := Aside0.mk (below_drew1 HB.out)
           refine st5_ 60 idiomref07_Check.tab1 idiomref07_Check.bits1 BK137 (fun hHeld HT_ HW_ => ?_)
           generalize w3.drew = w66 at BK137 HB hHeld ⊢
           iterate 6 (first | refine pu_ HT_ ?_ | refine tk_ HT_ HW_ hHeld ?_)
           refine cg_ 6 (bmp 60 7) (some 13) Tryz.func28 #[.string a0_0] HT_ ?_
           with_reducible refine (idiomref07_lang.calls k a0_0 true _ A32.out).mono ?_
           rintro e w' ⟨rfl, ⟨nd, rfl⟩⟩
           refine ⟨_, rfl, s5_ BK137, fun hHeld => nm_ ?_⟩
           iterate 3 (refine pu_ HT_ ?_)
           refine pg_ 12 (bm 60 5119) HT_ ?_
           refine tg_ 10 (bm 60 6143) HT_ HW_ hHeld ?_
           refine tg_ 13 (bm 60 14335) HT_ HW_ hHeld ?_
           refine cg_ 11 (bmp 60 14) (some 18) Tryz.func29 #[.string a0_0] HT_ ?_
           with_reducible refine (idiomref07_Small.calls a0_0 t145 _ A34.out).mono ?_
           rintro e w67 ⟨rfl, hb⟩
           replace BK137 := Aside0.mk (blk_below (g := gb137) (o := .cells #[.string a0_0, .string a0_1, .string a0_2, .slice A0_3 l0_3.length c0_3, .slice A0_4 l0_4.length c0_4] 25 (0, 0)) (bk_ BK137) hb)
           replace HB := Aside0.mk (below_step (by repeat (first | (with_reducible first | exact HB.out | apply below_alloc | apply pw_below_drewN | apply below_drew1 | refine below_set ?_ GE137.out) | exact HB.out)) hb)
           (try clear hb)
           (try clear hb2)
           (try clear hk)
           (try clear hi)
           refine ⟨_, rfl, s5_ BK137, fun hHeld => nm_ ?_⟩
           iterate 15 (first | refine pu_ HT_ ?_ | refine tk_ HT_ HW_ hHeld ?_)
           refine cg_ 29 (bmp 60 30) (some 36) Tryz.func30 #[.string a0_1] HT_ ?_
           with_reducible refine (idiomref07_script.calls k a0_1 true _ A51.out).mono ?_
           rintro e w' ⟨rfl, ⟨nd, rfl⟩⟩
           refine ⟨_, rfl, s5_ BK137, fun hHeld => nm_ ?_⟩
           iterate 3 (refine pu_ HT_ ?_)
           refine pg_ 35 (bm 60 42949672959) HT_ ?_
           refine tg_ 33 (bm 60 51539607551) HT_ HW_ hHeld ?_
           refine tg_ 36 (bm 60 120259084287) HT_ HW_ hHeld ?_
           refine cg_ 34 (bmp 60 37) (some 41) Tryz.func31 #[.string a0_1] HT_ ?_
           with_reducible refine (idiomref07_title.calls a0_1 t149 _ A53.out).mono ?_
           rintro e w68 ⟨rfl, hb⟩
           replace BK137 := Aside0.mk (blk_below (g := gb137) (o := .cells #[.string a0_0, .string a0_1, .string a0_2, .slice A0_3 l0_3.length c0_3, .slice A0_4 l0_4.length c0_4] 25 (0, 0)) (bk_ BK137) hb)
           replace HB := Aside0.mk (below_step (by repeat (first | (with_reducible first | exact HB.out | apply below_alloc | apply pw_below_drewN | apply below_drew1 | refine below_set ?_ GE137.out) | exact HB.out)) hb)
           (try clear hb)
           (try clear hb2)
           (try clear hk)
           (try clear hi)
           refine ⟨_, rfl, s5_ BK137, fun hHeld => nm_ ?_⟩
           iterate 11 (first | refine pu_ HT_ ?_ | refine tk_ HT_ HW_ hHeld ?_)
           refine cg_ 48 (bmp 60 49) (some 55) Tryz.func32 #[.string a0_2] HT_ ?_
           with_reducible refine (idiomref07_region.calls k a0_2 false _ A59.out).mono ?_
           rintro e w' ⟨rfl, ⟨nd, rfl⟩⟩
           refine ⟨_, rfl, s5_ BK137, fun hHeld => nm_ ?_⟩
           iterate 11 (first | refine sk_ HT_ ?_ | refine pu_ HT_ ?_)
           refine dg_ HT_ ?_
           try go_wp2
           go_meet
           case rel => exact ⟨_, (true), (by first | rfl | (simp; done) | (simp [*]; done)), H', ⟨by first | omega | exact Nat.le_refl _⟩, ⟨by (with_reducible repeat (first | refine blk_drewN ?_ _ | refine blk_drew ?_ | refine blk_alloc ?_ _)); exact BK137.out⟩, ⟨by repeat (first | (with_reducible first | exact HB.out | apply below_alloc | apply pw_below_drewN | apply below_drew1 | refine below_set ?_ GE137.out) | exact HB.out)⟩⟩
        ·as_aux_lemma =>
         rw [if_neg c54] at H
         have c54b0 : (t149.toList == a0_1.toList) = false := beq_eq_false_iff_ne.mpr c54
         have c54b1 : (t149.toList != a0_1.toList) = true := bne_iff_ne.mpr c54
         have H' := Aside0.mk H
         clear H
         try go_wp2
         replace BK137 := Aside0.mk (blk_drew BK137.out)
         replace HB := Aside0.mk (below_drew1 HB.out)
         refine st5_ 60 idiomref07_Check.tab1 idiomref07_Check.bits1 BK137 (fun hHeld HT_ HW_ => ?_)
         generalize w3.drew = w69 at BK137 HB hHeld ⊢
         iterate 6 (first | refine pu_ HT_ ?_ | refine tk_ HT_ HW_ hHeld ?_)
         refine cg_ 6 (bmp 60 7) (some 13) Tryz.func28 #[.string a0_0] HT_ ?_
         with_reducible refine (idiomref07_lang.calls k a0_0 true _ A32.out).mono ?_
         rintro e w' ⟨rfl, ⟨nd, rfl⟩⟩
         refine ⟨_, rfl, s5_ BK137, fun hHeld => nm_ ?_⟩
         iterate 3 (refine pu_ HT_ ?_)
         refine pg_ 12 (bm 60 5119) HT_ ?_
         refine tg_ 10 (bm 60 6143) HT_ HW_ hHeld ?_
         refine tg_ 13 (bm 60 14335) HT_ HW_ hHeld ?_
         refine cg_ 11 (bmp 60 14) (some 18) Tryz.func29 #[.string a0_0] HT_ ?_
         with_reducible refine (idiomref07_Small.calls a0_0 t145 _ A34.out).mono ?_
         rintro e w70 ⟨rfl, hb⟩
         replace BK137 := Aside0.mk (blk_below (g := gb137) (o := .cells #[.string a0_0, .string a0_1, .string a0_2, .slice A0_3 l0_3.length c0_3, .slice A0_4 l0_4.length c0_4] 25 (0, 0)) (bk_ BK137) hb)
         replace HB := Aside0.mk (below_step (by repeat (first | (with_reducible first | exact HB.out | apply below_alloc | apply pw_below_drewN | apply below_drew1 | refine below_set ?_ GE137.out) | exact HB.out)) hb)
         (try clear hb)
         (try clear hb2)
         (try clear hk)
         (try clear hi)
         refine ⟨_, rfl, s5_ BK137, fun hHeld => nm_ ?_⟩
         iterate 15 (first | refine pu_ HT_ ?_ | refine tk_ HT_ HW_ hHeld ?_)
         refine cg_ 29 (bmp 60 30) (some 36) Tryz.func30 #[.string a0_1] HT_ ?_
         with_reducible refine (idiomref07_script.calls k a0_1 true _ A51.out).mono ?_
         rintro e w' ⟨rfl, ⟨nd, rfl⟩⟩
         refine ⟨_, rfl, s5_ BK137, fun hHeld => nm_ ?_⟩
         iterate 3 (refine pu_ HT_ ?_)
         refine pg_ 35 (bm 60 42949672959) HT_ ?_
         refine tg_ 33 (bm 60 51539607551) HT_ HW_ hHeld ?_
         refine tg_ 36 (bm 60 120259084287) HT_ HW_ hHeld ?_
         refine cg_ 34 (bmp 60 37) (some 41) Tryz.func31 #[.string a0_1] HT_ ?_
         with_reducible refine (idiomref07_title.calls a0_1 t149 _ A53.out).mono ?_
         rintro e w71 ⟨rfl, hb⟩
         replace BK137 := Aside0.mk (blk_below (g := gb137) (o := .cells #[.string a0_0, .string a0_1, .string a0_2, .slice A0_3 l0_3.length c0_3, .slice A0_4 l0_4.length c0_4] 25 (0, 0)) (bk_ BK137) hb)
         replace HB := Aside0.mk (below_step (by repeat (first | (with_reducible first | exact HB.out | apply below_alloc | apply pw_below_drewN | apply below_drew1 | refine below_set ?_ GE137.out) | exact HB.out)) hb)
         (try clear hb)
         (try clear hb2)
         (try clear hk)
         (try clear hi)
         refine ⟨_, rfl, s5_ BK137, fun hHeld => nm_ ?_⟩
         iterate 23 (first | refine sk_ HT_ ?_ | refine pu_ HT_ ?_)
         refine dg_ HT_ ?_
         try go_wp2
         go_meet
         case rel => exact ⟨_, (true), (by first | rfl | (simp; done) | (simp [*]; done)), H', ⟨by first | omega | exact Nat.le_refl _⟩, ⟨by (with_reducible repeat (first | refine blk_drewN ?_ _ | refine blk_drew ?_ | refine blk_alloc ?_ _)); exact BK137.out⟩, ⟨by repeat (first | (with_reducible first | exact HB.out | apply below_alloc | apply pw_below_drewN | apply below_drew1 | refine below_set ?_ GE137.out) | exact HB.out)⟩⟩
       ·as_aux_lemma =>
        replace c52 := Bool.eq_false_iff.mpr c52
        subst c52
        have H1 : (idiomref07_Check.j0 k true a0_0 a0_1 a0_2 l0_3 l0_4) = some r := by rw [if_neg (show ¬ (false = true) by decide)] at H; exact H
        clear H
        have H := H1
        clear H1
        have H' := Aside0.mk H
        clear H
        try go_wp2
        replace BK137 := Aside0.mk (blk_drew BK137.out)
        replace HB := Aside0.mk (below_drew1 HB.out)
        refine st5_ 60 idiomref07_Check.tab1 idiomref07_Check.bits1 BK137 (fun hHeld HT_ HW_ => ?_)
        generalize w3.drew = w72 at BK137 HB hHeld ⊢
        iterate 6 (first | refine pu_ HT_ ?_ | refine tk_ HT_ HW_ hHeld ?_)
        refine cg_ 6 (bmp 60 7) (some 13) Tryz.func28 #[.string a0_0] HT_ ?_
        with_reducible refine (idiomref07_lang.calls k a0_0 true _ A32.out).mono ?_
        rintro e w' ⟨rfl, ⟨nd, rfl⟩⟩
        refine ⟨_, rfl, s5_ BK137, fun hHeld => nm_ ?_⟩
        iterate 3 (refine pu_ HT_ ?_)
        refine pg_ 12 (bm 60 5119) HT_ ?_
        refine tg_ 10 (bm 60 6143) HT_ HW_ hHeld ?_
        refine tg_ 13 (bm 60 14335) HT_ HW_ hHeld ?_
        refine cg_ 11 (bmp 60 14) (some 18) Tryz.func29 #[.string a0_0] HT_ ?_
        with_reducible refine (idiomref07_Small.calls a0_0 t145 _ A34.out).mono ?_
        rintro e w73 ⟨rfl, hb⟩
        replace BK137 := Aside0.mk (blk_below (g := gb137) (o := .cells #[.string a0_0, .string a0_1, .string a0_2, .slice A0_3 l0_3.length c0_3, .slice A0_4 l0_4.length c0_4] 25 (0, 0)) (bk_ BK137) hb)
        replace HB := Aside0.mk (below_step (by repeat (first | (with_reducible first | exact HB.out | apply below_alloc | apply pw_below_drewN | apply below_drew1 | refine below_set ?_ GE137.out) | exact HB.out)) hb)
        (try clear hb)
        (try clear hb2)
        (try clear hk)
        (try clear hi)
        refine ⟨_, rfl, s5_ BK137, fun hHeld => nm_ ?_⟩
        iterate 15 (first | refine pu_ HT_ ?_ | refine tk_ HT_ HW_ hHeld ?_)
        refine cg_ 29 (bmp 60 30) (some 36) Tryz.func30 #[.string a0_1] HT_ ?_
        with_reducible refine (idiomref07_script.calls k a0_1 false _ A51.out).mono ?_
        rintro e w' ⟨rfl, ⟨nd, rfl⟩⟩
        refine ⟨_, rfl, s5_ BK137, fun hHeld => nm_ ?_⟩
        iterate 30 (first | refine sk_ HT_ ?_ | refine pu_ HT_ ?_)
        refine dg_ HT_ ?_
        try go_wp2
        go_meet
        case rel => exact ⟨_, (true), (by first | rfl | (simp; done) | (simp [*]; done)), H', ⟨by first | omega | exact Nat.le_refl _⟩, ⟨by (with_reducible repeat (first | refine blk_drewN ?_ _ | refine blk_drew ?_ | refine blk_alloc ?_ _)); exact BK137.out⟩, ⟨by repeat (first | (with_reducible first | exact HB.out | apply below_alloc | apply pw_below_drewN | apply below_drew1 | refine below_set ?_ GE137.out) | exact HB.out)⟩⟩
    ·as_aux_lemma =>
     rw [if_neg c35] at H
     have c35b0 : (t145.toList == a0_0.toList) = false := beq_eq_false_iff_ne.mpr c35
     have c35b1 : (t145.toList != a0_0.toList) = true := bne_iff_ne.mpr c35
     have H' := Aside0.mk H
     clear H
     try go_wp2
     replace BK137 := Aside0.mk (blk_drew BK137.out)
     replace HB := Aside0.mk (below_drew1 HB.out)
     refine st5_ 60 idiomref07_Check.tab1 idiomref07_Check.bits1 BK137 (fun hHeld HT_ HW_ => ?_)
     generalize w3.drew = w74 at BK137 HB hHeld ⊢
     iterate 6 (first | refine pu_ HT_ ?_ | refine tk_ HT_ HW_ hHeld ?_)
     refine cg_ 6 (bmp 60 7) (some 13) Tryz.func28 #[.string a0_0] HT_ ?_
     with_reducible refine (idiomref07_lang.calls k a0_0 true _ A32.out).mono ?_
     rintro e w' ⟨rfl, ⟨nd, rfl⟩⟩
     refine ⟨_, rfl, s5_ BK137, fun hHeld => nm_ ?_⟩
     iterate 3 (refine pu_ HT_ ?_)
     refine pg_ 12 (bm 60 5119) HT_ ?_
     refine tg_ 10 (bm 60 6143) HT_ HW_ hHeld ?_
     refine tg_ 13 (bm 60 14335) HT_ HW_ hHeld ?_
     refine cg_ 11 (bmp 60 14) (some 18) Tryz.func29 #[.string a0_0] HT_ ?_
     with_reducible refine (idiomref07_Small.calls a0_0 t145 _ A34.out).mono ?_
     rintro e w75 ⟨rfl, hb⟩
     replace BK137 := Aside0.mk (blk_below (g := gb137) (o := .cells #[.string a0_0, .string a0_1, .string a0_2, .slice A0_3 l0_3.length c0_3, .slice A0_4 l0_4.length c0_4] 25 (0, 0)) (bk_ BK137) hb)
     replace HB := Aside0.mk (below_step (by repeat (first | (with_reducible first | exact HB.out | apply below_alloc | apply pw_below_drewN | apply below_drew1 | refine below_set ?_ GE137.out) | exact HB.out)) hb)
     (try clear hb)
     (try clear hb2)
     (try clear hk)
     (try clear hi)
     refine ⟨_, rfl, s5_ BK137, fun hHeld => nm_ ?_⟩
     iterate 46 (first | refine sk_ HT_ ?_ | refine pu_ HT_ ?_)
     refine dg_ HT_ ?_
     try go_wp2
     go_meet
     case rel => exact ⟨_, (true), (by first | rfl | (simp; done) | (simp [*]; done)), H', ⟨by first | omega | exact Nat.le_refl _⟩, ⟨by (with_reducible repeat (first | refine blk_drewN ?_ _ | refine blk_drew ?_ | refine blk_alloc ?_ _)); exact BK137.out⟩, ⟨by repeat (first | (with_reducible first | exact HB.out | apply below_alloc | apply pw_below_drewN | apply below_drew1 | refine below_set ?_ GE137.out) | exact HB.out)⟩⟩
   ·as_aux_lemma =>
    replace c33 := Bool.eq_false_iff.mpr c33
    subst c33
    have H1 : (idiomref07_Check.j0 k true a0_0 a0_1 a0_2 l0_3 l0_4) = some r := by rw [if_neg (show ¬ (false = true) by decide)] at H; exact H
    clear H
    have H := H1
    clear H1
    have H' := Aside0.mk H
    clear H
    try go_wp2
    replace BK137 := Aside0.mk (blk_drew BK137.out)
    replace HB := Aside0.mk (below_drew1 HB.out)
    refine st5_ 60 idiomref07_Check.tab1 idiomref07_Check.bits1 BK137 (fun hHeld HT_ HW_ => ?_)
    generalize w3.drew = w76 at BK137 HB hHeld ⊢
    iterate 6 (first | refine pu_ HT_ ?_ | refine tk_ HT_ HW_ hHeld ?_)
    refine cg_ 6 (bmp 60 7) (some 13) Tryz.func28 #[.string a0_0] HT_ ?_
    with_reducible refine (idiomref07_lang.calls k a0_0 false _ A32.out).mono ?_
    rintro e w' ⟨rfl, ⟨nd, rfl⟩⟩
    refine ⟨_, rfl, s5_ BK137, fun hHeld => nm_ ?_⟩
    iterate 53 (first | refine sk_ HT_ ?_ | refine pu_ HT_ ?_)
    refine dg_ HT_ ?_
    try go_wp2
    go_meet
    case rel => exact ⟨_, (true), (by first | rfl | (simp; done) | (simp [*]; done)), H', ⟨by first | omega | exact Nat.le_refl _⟩, ⟨by (with_reducible repeat (first | refine blk_drewN ?_ _ | refine blk_drew ?_ | refine blk_alloc ?_ _)); exact BK137.out⟩, ⟨by repeat (first | (with_reducible first | exact HB.out | apply below_alloc | apply pw_below_drewN | apply below_drew1 | refine below_set ?_ GE137.out) | exact HB.out)⟩⟩
 case rest =>
  clear HC2
  obtain ⟨kq, x66_1, rfl, HA, HJ1, BK137, HB⟩ := hcut
  cases kq with
  | zero => exact absurd HA.out (by simp [idiomref07_Check.j0])
  | succ kj1 =>
   have H := HA.out
   clear HA
   simp only [idiomref07_Check.j0] at H
   by_cases c77 : x66_1 = true
   ·as_aux_lemma =>
    subst c77
    have H1 : (some 70) = some r := by rw [if_pos rfl] at H; exact H
    clear H
    have H := H1
    clear H1
    obtain rfl := Option.some.inj H
    go_wp2
    go_ret
    exact ⟨by first | rfl | (simp [errW_none, errW_some] <;> rfl) | (simp [*, errW_none, errW_some] <;> rfl), by repeat (first | (with_reducible first | exact HB.out | apply below_alloc | apply pw_below_drewN | apply below_drew1 | refine below_set ?_ GE137.out) | exact HB.out)⟩
   ·as_aux_lemma =>
    replace c77 := Bool.eq_false_iff.mpr c77
    subst c77
    have H1 : (if (l0_3.length : Int) > 64 then (some 5) else (idiomref07_Check.l0 kj1 0 a0_0 a0_1 a0_2 l0_3 l0_4)) = some r := by rw [if_neg (show ¬ (false = true) by decide)] at H; exact H
    clear H
    have H := H1
    clear H1
    by_cases c78 : (l0_3.length : Int) > 64
    ·as_aux_lemma =>
     rw [if_pos c78] at H
     have c78b0 : decide (64 < (l0_3.length : Int)) = true := decide_eq_true c78
     have c78b1 : decide (64 < l0_3.length) = true := decide_eq_true (by omega)
     clear c78
     obtain rfl := Option.some.inj H
     obtain ⟨hcz79_0, hcz79_1, hcz79_2, hcz79_3, hcz79_4, hfz79_0, hfz79_1, hfz79_2, hfz79_3, hfz79_4⟩ := c5_ BK137
     go_wp2
     go_ret
     exact ⟨by first | rfl | (simp [errW_none, errW_some] <;> rfl) | (simp [*, errW_none, errW_some] <;> rfl), by repeat (first | (with_reducible first | exact HB.out | apply below_alloc | apply pw_below_drewN | apply below_drew1 | refine below_set ?_ GE137.out) | exact HB.out)⟩
    ·as_aux_lemma =>
     rw [if_neg c78] at H
     have c78b0 : decide (64 < (l0_3.length : Int)) = false := decide_eq_false c78
     have c78b1 : decide (64 < l0_3.length) = false := decide_eq_false (by omega)
     clear c78
     have H' := Aside0.mk H
     clear H
     obtain ⟨hcz80_0, hcz80_1, hcz80_2, hcz80_3, hcz80_4, hfz80_0, hfz80_1, hfz80_2, hfz80_3, hfz80_4⟩ := c5_ BK137
     go_wp2
     go_loopg [3] kj1 (fun kq v3 w' => ∃ (x3_2 : Int), v3 = .int .i64 x3_2 ∧ Aside0 (idiomref07_Check.l0 kq x3_2 a0_0 a0_1 a0_2 l0_3 l0_4 = some r) ∧ Aside0 (kq ≤ kj1) ∧ Aside0 (w'.heap[gb137]? = some (.cells #[.string a0_0, .string a0_1, .string a0_2, (.slice A0_3 l0_3.length c0_3), (.slice A0_4 l0_4.length c0_4)] 25 (0, 0))) ∧ Aside0 (Below w.heap.size w w'))
     case atStart => exact ⟨(0), (by first | rfl | (simp; done) | (simp [*]; done)), H', ⟨Nat.le_refl _⟩, ⟨by (with_reducible repeat (first | refine blk_drewN ?_ _ | refine blk_drew ?_ | refine blk_alloc ?_ _)); exact BK137.out⟩, ⟨by repeat (first | (with_reducible first | exact HB.out | apply below_alloc | apply pw_below_drewN | apply below_drew1 | refine below_set ?_ GE137.out) | exact HB.out)⟩⟩
     case round =>
      clear H'
      clear c78b0 c78b1 hcz80_0 hcz80_1 hcz80_2 hcz80_3 hcz80_4 hfz80_0 hfz80_1 hfz80_2 hfz80_3 hfz80_4
      obtain ⟨x3_2, rfl, HA, HK2, BK137, HB⟩ := hrel
      cases gk with
      | zero => exact absurd HA.out (by simp [idiomref07_Check.l0])
      | succ k2 =>
       have H := HA.out
       clear HA
       simp only [idiomref07_Check.l0] at H
       by_cases c81 : x3_2 < (l0_3.length : Int)
       ·as_aux_lemma =>
        rw [if_pos c81] at H
        have c81b0 : decide (x3_2 < (l0_3.length : Int)) = true := decide_eq_true c81
        clear c81
        by_cases c82 : 0 ≤ x3_2
        ·as_aux_lemma =>
         rw [if_pos c82] at H
         have c82b0 : decide (0 ≤ x3_2) = true := decide_eq_true c82
         clear c82
         have HC83 := Aside0.mk H
         clear H
         obtain ⟨hcz84_0, hcz84_1, hcz84_2, hcz84_3, hcz84_4, hfz84_0, hfz84_1, hfz84_2, hfz84_3, hfz84_4⟩ := c5_ BK137
         have p152 : 0 ≤ (x3_2 : Int) := of_decide_eq_true (by first | (with_reducible assumption) | assumption)
         have q152 : x3_2 < (l0_3.length : Int) := of_decide_eq_true (by first | (with_reducible assumption) | assumption)
         obtain ⟨ad152, e152, hx152_0⟩ := Kd.at_string HR0_3.out x3_2 p152 q152
         cases e152
         replace hx152_0 := (HB.out.cell (World.block_lt_of_cell? w _ hx152_0)).trans hx152_0
         replace p152 := eq_true p152
         replace q152 := eq_true q152
         go_upto_region 9 with (fail)
         go_cut [91] (fun v91 wc => ∃ (kq : Nat) (x91_82 : Bool), v91 = .bool x91_82 ∧ Aside0 (idiomref07_Check.j2 kq x3_2 (rdOf ByteArray.empty l0_3 x3_2) x91_82 a0_0 a0_1 a0_2 l0_3 l0_4 = some r) ∧ Aside0 (kq ≤ k2) ∧ Aside0 (wc.heap[gb137]? = some (.cells #[.string a0_0, .string a0_1, .string a0_2, (.slice (some ad152) l0_3.length c0_3), (.slice A0_4 l0_4.length c0_4)] 25 (0, 0))) ∧ Aside0 (Below w.heap.size w wc))
         case first =>
          have H := HC83.out
          clear HC83
          replace H := Option.bind_eq_some_iff.mp H
          obtain ⟨t153, A850, H⟩ := H
          try dsimp only at H
          have A85 := Aside0.mk A850
          clear A850
          by_cases c86 : t153 = true
          ·as_aux_lemma =>
           subst c86
           have H1 : ((idiomref07_Small.f (rdOf ByteArray.empty l0_3 x3_2)).bind fun t154 => (idiomref07_Check.j2 k2 x3_2 (rdOf ByteArray.empty l0_3 x3_2) (t154.toList != (rdOf ByteArray.empty l0_3 x3_2).toList) a0_0 a0_1 a0_2 l0_3 l0_4)) = some r := by rw [if_pos rfl] at H; exact H
           clear H
           have H := H1
           clear H1
           replace H := Option.bind_eq_some_iff.mp H
           obtain ⟨t154, A870, H⟩ := H
           try dsimp only at H
           have A87 := Aside0.mk A870
           clear A870
           have H' := Aside0.mk H
           clear H
           go_wp2_with (first | ((with_reducible refine gate_callee (f := 34) rfl ?_); refine gb_ (some 84) Tryz.func34 #[.string (rdOf ByteArray.empty l0_3 x3_2)] ?_; (with_reducible refine (idiomref07_variant.calls k2 (rdOf ByteArray.empty l0_3 x3_2) true _ A85.out).mono ?_); rintro e w' ⟨rfl, ⟨nd, rfl⟩⟩; refine ⟨_, rfl, ?_⟩) | (go_at_call 29; (with_reducible refine (idiomref07_Small.calls (rdOf ByteArray.empty l0_3 x3_2) t154 _ A87.out).mono ?_); rintro e w88 ⟨rfl, hb⟩; replace BK137 := Aside0.mk (blk_below (g := gb137) (o := .cells #[.string a0_0, .string a0_1, .string a0_2, .slice (some ad152) l0_3.length c0_3, .slice A0_4 l0_4.length c0_4] 25 (0, 0)) (bk_ BK137) hb); replace HB := Aside0.mk (below_step (by repeat (first | (with_reducible first | exact HB.out | apply below_alloc | apply pw_below_drewN | apply below_drew1 | refine below_set ?_ GE137.out) | exact HB.out)) hb); try clear hb))
           go_meet
           case rel => exact ⟨_, ((t154.toList != (rdOf ByteArray.empty l0_3 x3_2).toList)), (by first | rfl | (simp; done) | (simp [*]; done)), H', ⟨by have := HJ1.out; have := HK2.out; first | omega | exact Nat.le_refl _⟩, ⟨by (with_reducible repeat (first | refine blk_drewN ?_ _ | refine blk_drew ?_ | refine blk_alloc ?_ _)); exact BK137.out⟩, ⟨by repeat (first | (with_reducible first | exact HB.out | apply below_alloc | apply pw_below_drewN | apply below_drew1 | refine below_set ?_ GE137.out) | exact HB.out)⟩⟩
          ·as_aux_lemma =>
           replace c86 := Bool.eq_false_iff.mpr c86
           subst c86
           have H1 : (idiomref07_Check.j2 k2 x3_2 (rdOf ByteArray.empty l0_3 x3_2) true a0_0 a0_1 a0_2 l0_3 l0_4) = some r := by rw [if_neg (show ¬ (false = true) by decide)] at H; exact H
           clear H
           have H := H1
           clear H1
           have H' := Aside0.mk H
           clear H
           go_wp2_with (first | ((with_reducible refine gate_callee (f := 34) rfl ?_); refine gb_ (some 84) Tryz.func34 #[.string (rdOf ByteArray.empty l0_3 x3_2)] ?_; (with_reducible refine (idiomref07_variant.calls k2 (rdOf ByteArray.empty l0_3 x3_2) false _ A85.out).mono ?_); rintro e w' ⟨rfl, ⟨nd, rfl⟩⟩; refine ⟨_, rfl, ?_⟩))
           go_meet
           case rel => exact ⟨_, (true), (by first | rfl | (simp; done) | (simp [*]; done)), H', ⟨by have := HJ1.out; have := HK2.out; first | omega | exact Nat.le_refl _⟩, ⟨by (with_reducible repeat (first | refine blk_drewN ?_ _ | refine blk_drew ?_ | refine blk_alloc ?_ _)); exact BK137.out⟩, ⟨by repeat (first | (with_reducible first | exact HB.out | apply below_alloc | apply pw_below_drewN | apply below_drew1 | refine below_set ?_ GE137.out) | exact HB.out)⟩⟩
         case rest =>
          clear HC83
          clear c81b0 c82b0 hcz84_0 hcz84_1 hcz84_2 hcz84_3 hcz84_4 hfz84_0 hfz84_1 hfz84_2 hfz84_3 hfz84_4 hx152_0 p152 q152
          obtain ⟨kq, x91_82, rfl, HA, HJ82, BK137, HB⟩ := hcut
          cases kq with
          | zero => exact absurd HA.out (by simp [idiomref07_Check.j2])
          | succ kj82 =>
           have H := HA.out
           clear HA
           simp only [idiomref07_Check.j2] at H
           by_cases c89 : x91_82 = true
           ·as_aux_lemma =>
            subst c89
            have H1 : (some 70) = some r := by rw [if_pos rfl] at H; exact H
            clear H
            have H := H1
            clear H1
            obtain rfl := Option.some.inj H
            go_wp2
            go_ret
            exact ⟨by first | rfl | (simp [errW_none, errW_some] <;> rfl) | (simp [*, errW_none, errW_some] <;> rfl), by repeat (first | (with_reducible first | exact HB.out | apply below_alloc | apply pw_below_drewN | apply below_drew1 | refine below_set ?_ GE137.out) | exact HB.out)⟩
           ·as_aux_lemma =>
            replace c89 := Bool.eq_false_iff.mpr c89
            subst c89
            have H1 : (if x3_2 > 0 then (if 0 ≤ (wrap64 (x3_2 - 1)) then (if (wrap64 (x3_2 - 1)) < (l0_3.length : Int) then (idiomref07_Check.j3 kj82 x3_2 (rdOf ByteArray.empty l0_3 x3_2) ((rdOf ByteArray.empty l0_3 (wrap64 (x3_2 - 1))).toList == (rdOf ByteArray.empty l0_3 x3_2).toList) a0_0 a0_1 a0_2 l0_3 l0_4) else (none)) else (none)) else (idiomref07_Check.j3 kj82 x3_2 (rdOf ByteArray.empty l0_3 x3_2) false a0_0 a0_1 a0_2 l0_3 l0_4)) = some r := by rw [if_neg (show ¬ (false = true) by decide)] at H; exact H
            clear H
            have H := H1
            clear H1
            have HC90 := Aside0.mk H
            clear H
            go_upto_region 11 with (fail)
            go_cut [103] (fun v103 wc => ∃ (kq : Nat) (x103_89 : Bool), v103 = .bool x103_89 ∧ Aside0 (idiomref07_Check.j3 kq x3_2 (rdOf ByteArray.empty l0_3 x3_2) x103_89 a0_0 a0_1 a0_2 l0_3 l0_4 = some r) ∧ Aside0 (kq ≤ kj82) ∧ Aside0 (wc.heap[gb137]? = some (.cells #[.string a0_0, .string a0_1, .string a0_2, (.slice (some ad152) l0_3.length c0_3), (.slice A0_4 l0_4.length c0_4)] 25 (0, 0))) ∧ Aside0 (Below w.heap.size w wc))
            case first =>
             have H := HC90.out
             clear HC90
             by_cases c91 : x3_2 > 0
             ·as_aux_lemma =>
              rw [if_pos c91] at H
              have c91b0 : decide (0 < x3_2) = true := decide_eq_true c91
              clear c91
              (first | rw [c91b0] | rw [c91b1] | rw [c91b2] | (simp only [i64_w, i32_w]; rw [c91b0]) | skip)
              (try simp only [Bool.not_true, Bool.not_false])
              obtain ⟨ji92, hji92⟩ : ∃ j_ : Int, (wrap64 (x3_2 - 1)) = j_ := ⟨_, rfl⟩
              replace H : (if 0 ≤ (ji92) then (if (ji92) < (l0_3.length : Int) then (idiomref07_Check.j3 kj82 x3_2 (rdOf ByteArray.empty l0_3 x3_2) ((rdOf ByteArray.empty l0_3 (ji92)).toList == (rdOf ByteArray.empty l0_3 x3_2).toList) a0_0 a0_1 a0_2 l0_3 l0_4) else (none)) else (none)) = some r := by first | (rw [hji92] at H; exact H) | (simp only [hji92] at H ⊢; exact H)
              have hji92w : (IntKind.i64.wrap (x3_2 - 1)) = ji92 := (i64_w _).trans hji92
              by_cases c93 : 0 ≤ (ji92)
              ·as_aux_lemma =>
               rw [if_pos c93] at H
               have c93b0 : decide (0 ≤ (ji92)) = true := decide_eq_true c93
               clear c93
               by_cases c94 : (ji92) < (l0_3.length : Int)
               ·as_aux_lemma =>
                rw [if_pos c94] at H
                have c94b0 : decide ((ji92) < (l0_3.length : Int)) = true := decide_eq_true c94
                clear c94
                have H' := Aside0.mk H
                clear H
                obtain ⟨hcz95_0, hcz95_1, hcz95_2, hcz95_3, hcz95_4, hfz95_0, hfz95_1, hfz95_2, hfz95_3, hfz95_4⟩ := c5_ BK137
                have p155 : 0 ≤ ((ji92) : Int) := of_decide_eq_true (by first | (with_reducible assumption) | assumption)
                have q155 : (ji92) < (l0_3.length : Int) := of_decide_eq_true (by first | (with_reducible assumption) | assumption)
                obtain ⟨ad155, e155, hx155_0⟩ := Kd.at_string HR0_3.out (ji92) p155 q155
                obtain rfl : ad152 = ad155 := (by injection e155)
                replace hx155_0 := (HB.out.cell (World.block_lt_of_cell? w _ hx155_0)).trans hx155_0
                replace p155 := eq_true p155
                replace q155 := eq_true q155
                go_wp2
                go_meet
                case rel => exact ⟨_, (((rdOf ByteArray.empty l0_3 (ji92)).toList == (rdOf ByteArray.empty l0_3 x3_2).toList)), (by first | rfl | (simp; done) | (simp only [← hji92] <;> (first | rfl | simp)) | (simp [*]; done)), H', ⟨by have := HJ1.out; have := HK2.out; have := HJ82.out; first | omega | exact Nat.le_refl _⟩, ⟨by (with_reducible repeat (first | refine blk_drewN ?_ _ | refine blk_drew ?_ | refine blk_alloc ?_ _)); exact BK137.out⟩, ⟨by repeat (first | (with_reducible first | exact HB.out | apply below_alloc | apply pw_below_drewN | apply below_drew1 | refine below_set ?_ GE137.out) | exact HB.out)⟩⟩
               ·as_aux_lemma =>
                rw [if_neg c94] at H
                exact absurd H (by simp)
              ·as_aux_lemma =>
               rw [if_neg c93] at H
               exact absurd H (by simp)
             ·as_aux_lemma =>
              rw [if_neg c91] at H
              have c91b0 : decide (0 < x3_2) = false := decide_eq_false c91
              clear c91
              (first | rw [c91b0] | rw [c91b1] | rw [c91b2] | (simp only [i64_w, i32_w]; rw [c91b0]) | skip)
              (try simp only [Bool.not_true, Bool.not_false])
              have H' := Aside0.mk H
              clear H
              go_wp2
              go_meet
              case rel => exact ⟨_, (false), (by first | rfl | (simp; done) | (simp [*]; done)), H', ⟨by have := HJ1.out; have := HK2.out; have := HJ82.out; first | omega | exact Nat.le_refl _⟩, ⟨by (with_reducible repeat (first | refine blk_drewN ?_ _ | refine blk_drew ?_ | refine blk_alloc ?_ _)); exact BK137.out⟩, ⟨by repeat (first | (with_reducible first | exact HB.out | apply below_alloc | apply pw_below_drewN | apply below_drew1 | refine below_set ?_ GE137.out) | exact HB.out)⟩⟩
            case rest =>
             clear HC90
             obtain ⟨kq, x103_89, rfl, HA, HJ89, BK137, HB⟩ := hcut
             cases kq with
             | zero => exact absurd HA.out (by simp [idiomref07_Check.j3])
             | succ kj89 =>
              have H := HA.out
              clear HA
              simp only [idiomref07_Check.j3] at H
              by_cases c96 : x103_89 = true
              ·as_aux_lemma =>
               subst c96
               have H1 : (some 6) = some r := by rw [if_pos rfl] at H; exact H
               clear H
               have H := H1
               clear H1
               obtain rfl := Option.some.inj H
               go_wp2
               go_ret
               exact ⟨by first | rfl | (simp [errW_none, errW_some] <;> rfl) | (simp [*, errW_none, errW_some] <;> rfl), by repeat (first | (with_reducible first | exact HB.out | apply below_alloc | apply pw_below_drewN | apply below_drew1 | refine below_set ?_ GE137.out) | exact HB.out)⟩
              ·as_aux_lemma =>
               replace c96 := Bool.eq_false_iff.mpr c96
               subst c96
               have H1 : (if x3_2 > 0 then (if 0 ≤ (wrap64 (x3_2 - 1)) then (if (wrap64 (x3_2 - 1)) < (l0_3.length : Int) then (idiomref07_Check.j4 kj89 x3_2 (Op.bytesLess (rdOf ByteArray.empty l0_3 x3_2).toList ((rdOf ByteArray.empty l0_3 (wrap64 (x3_2 - 1))).toList)) a0_0 a0_1 a0_2 l0_3 l0_4) else (none)) else (none)) else (idiomref07_Check.j4 kj89 x3_2 false a0_0 a0_1 a0_2 l0_3 l0_4)) = some r := by rw [if_neg (show ¬ (false = true) by decide)] at H; exact H
               clear H
               have H := H1
               clear H1
               have HC97 := Aside0.mk H
               clear H
               go_upto_region 13 with (fail)
               go_cut [115] (fun v115 wc => ∃ (kq : Nat) (x115_96 : Bool), v115 = .bool x115_96 ∧ Aside0 (idiomref07_Check.j4 kq x3_2 x115_96 a0_0 a0_1 a0_2 l0_3 l0_4 = some r) ∧ Aside0 (kq ≤ kj89) ∧ Aside0 (wc.heap[gb137]? = some (.cells #[.string a0_0, .string a0_1, .string a0_2, (.slice (some ad152) l0_3.length c0_3), (.slice A0_4 l0_4.length c0_4)] 25 (0, 0))) ∧ Aside0 (Below w.heap.size w wc))
               case first =>
                have H := HC97.out
                clear HC97
                by_cases c98 : x3_2 > 0
                ·as_aux_lemma =>
                 rw [if_pos c98] at H
                 have c98b0 : decide (0 < x3_2) = true := decide_eq_true c98
                 clear c98
                 (first | rw [c98b0] | rw [c98b1] | rw [c98b2] | (simp only [i64_w, i32_w]; rw [c98b0]) | skip)
                 (try simp only [Bool.not_true, Bool.not_false])
                 obtain ⟨ji99, hji99⟩ : ∃ j_ : Int, (wrap64 (x3_2 - 1)) = j_ := ⟨_, rfl⟩
                 replace H : (if 0 ≤ (ji99) then (if (ji99) < (l0_3.length : Int) then (idiomref07_Check.j4 kj89 x3_2 (Op.bytesLess (rdOf ByteArray.empty l0_3 x3_2).toList ((rdOf ByteArray.empty l0_3 (ji99)).toList)) a0_0 a0_1 a0_2 l0_3 l0_4) else (none)) else (none)) = some r := by first | (rw [hji99] at H; exact H) | (simp only [hji99] at H ⊢; exact H)
                 have hji99w : (IntKind.i64.wrap (x3_2 - 1)) = ji99 := (i64_w _).trans hji99
                 by_cases c100 : 0 ≤ (ji99)
                 ·as_aux_lemma =>
                  rw [if_pos c100] at H
                  have c100b0 : decide (0 ≤ (ji99)) = true := decide_eq_true c100
                  clear c100
                  by_cases c101 : (ji99) < (l0_3.length : Int)
                  ·as_aux_lemma =>
                   rw [if_pos c101] at H
                   have c101b0 : decide ((ji99) < (l0_3.length : Int)) = true := decide_eq_true c101
                   clear c101
                   have H' := Aside0.mk H
                   clear H
                   obtain ⟨hcz102_0, hcz102_1, hcz102_2, hcz102_3, hcz102_4, hfz102_0, hfz102_1, hfz102_2, hfz102_3, hfz102_4⟩ := c5_ BK137
                   have p156 : 0 ≤ ((ji99) : Int) := of_decide_eq_true (by first | (with_reducible assumption) | assumption)
                   have q156 : (ji99) < (l0_3.length : Int) := of_decide_eq_true (by first | (with_reducible assumption) | assumption)
                   obtain ⟨ad156, e156, hx156_0⟩ := Kd.at_string HR0_3.out (ji99) p156 q156
                   obtain rfl : ad152 = ad156 := (by injection e156)
                   replace hx156_0 := (HB.out.cell (World.block_lt_of_cell? w _ hx156_0)).trans hx156_0
                   replace p156 := eq_true p156
                   replace q156 := eq_true q156
                   go_wp2
                   go_meet
                   case rel => exact ⟨_, ((Op.bytesLess (rdOf ByteArray.empty l0_3 x3_2).toList ((rdOf ByteArray.empty l0_3 (ji99)).toList))), (by first | rfl | (simp; done) | (simp only [← hji99] <;> (first | rfl | simp)) | (simp [*]; done)), H', ⟨by have := HJ1.out; have := HK2.out; have := HJ82.out; have := HJ89.out; first | omega | exact Nat.le_refl _⟩, ⟨by (with_reducible repeat (first | refine blk_drewN ?_ _ | refine blk_drew ?_ | refine blk_alloc ?_ _)); exact BK137.out⟩, ⟨by repeat (first | (with_reducible first | exact HB.out | apply below_alloc | apply pw_below_drewN | apply below_drew1 | refine below_set ?_ GE137.out) | exact HB.out)⟩⟩
                  ·as_aux_lemma =>
                   rw [if_neg c101] at H
                   exact absurd H (by simp)
                 ·as_aux_lemma =>
                  rw [if_neg c100] at H
                  exact absurd H (by simp)
                ·as_aux_lemma =>
                 rw [if_neg c98] at H
                 have c98b0 : decide (0 < x3_2) = false := decide_eq_false c98
                 clear c98
                 (first | rw [c98b0] | rw [c98b1] | rw [c98b2] | (simp only [i64_w, i32_w]; rw [c98b0]) | skip)
                 (try simp only [Bool.not_true, Bool.not_false])
                 have H' := Aside0.mk H
                 clear H
                 go_wp2
                 go_meet
                 case rel => exact ⟨_, (false), (by first | rfl | (simp; done) | (simp [*]; done)), H', ⟨by have := HJ1.out; have := HK2.out; have := HJ82.out; have := HJ89.out; first | omega | exact Nat.le_refl _⟩, ⟨by (with_reducible repeat (first | refine blk_drewN ?_ _ | refine blk_drew ?_ | refine blk_alloc ?_ _)); exact BK137.out⟩, ⟨by repeat (first | (with_reducible first | exact HB.out | apply below_alloc | apply pw_below_drewN | apply below_drew1 | refine below_set ?_ GE137.out) | exact HB.out)⟩⟩
               case rest =>
                clear HC97
                obtain ⟨kq, x115_96, rfl, HA, HJ96, BK137, HB⟩ := hcut
                cases kq with
                | zero => exact absurd HA.out (by simp [idiomref07_Check.j4])
                | succ kj96 =>
                 have H := HA.out
                 clear HA
                 simp only [idiomref07_Check.j4] at H
                 by_cases c103 : x115_96 = true
                 ·as_aux_lemma =>
                  subst c103
                  have H1 : (some 70) = some r := by rw [if_pos rfl] at H; exact H
                  clear H
                  have H := H1
                  clear H1
                  obtain rfl := Option.some.inj H
                  go_wp2
                  go_ret
                  exact ⟨by first | rfl | (simp [errW_none, errW_some] <;> rfl) | (simp [*, errW_none, errW_some] <;> rfl), by repeat (first | (with_reducible first | exact HB.out | apply below_alloc | apply pw_below_drewN | apply below_drew1 | refine below_set ?_ GE137.out) | exact HB.out)⟩
                 ·as_aux_lemma =>
                  replace c103 := Bool.eq_false_iff.mpr c103
                  subst c103
                  have H1 : (idiomref07_Check.l0 kj96 (wrap64 (x3_2 + 1)) a0_0 a0_1 a0_2 l0_3 l0_4) = some r := by rw [if_neg (show ¬ (false = true) by decide)] at H; exact H
                  clear H
                  have H := H1
                  clear H1
                  have H' := Aside0.mk H
                  clear H
                  go_wp2
                  go_roundg kj96
                  case measure => have := HJ1.out; have := HK2.out; have := HJ82.out; have := HJ89.out; have := HJ96.out; omega
                  case rel => exact ⟨(wrap64 (x3_2 + 1)), (by first | rfl | (simp; done) | (simp [*]; done)), H', ⟨by have := HJ1.out; have := HK2.out; have := HJ82.out; have := HJ89.out; have := HJ96.out; omega⟩, ⟨by (with_reducible repeat (first | refine blk_drewN ?_ _ | refine blk_drew ?_ | refine blk_alloc ?_ _)); exact BK137.out⟩, ⟨by repeat (first | (with_reducible first | exact HB.out | apply below_alloc | apply pw_below_drewN | apply below_drew1 | refine below_set ?_ GE137.out) | exact HB.out)⟩⟩
        ·as_aux_lemma =>
         rw [if_neg c82] at H
         exact absurd H (by simp)
       ·as_aux_lemma =>
        rw [if_neg c81] at H
        have c81b0 : decide (x3_2 < (l0_3.length : Int)) = false := decide_eq_false c81
        clear c81
        by_cases c104 : (l0_4.length : Int) > 64
        ·as_aux_lemma =>
         rw [if_pos c104] at H
         have c104b0 : decide (64 < (l0_4.length : Int)) = true := decide_eq_true c104
         have c104b1 : decide (64 < l0_4.length) = true := decide_eq_true (by omega)
         clear c104
         obtain rfl := Option.some.inj H
         obtain ⟨hcz105_0, hcz105_1, hcz105_2, hcz105_3, hcz105_4, hfz105_0, hfz105_1, hfz105_2, hfz105_3, hfz105_4⟩ := c5_ BK137
         go_wp2
         go_ret
         exact ⟨by first | rfl | (simp [errW_none, errW_some] <;> rfl) | (simp [*, errW_none, errW_some] <;> rfl), by repeat (first | (with_reducible first | exact HB.out | apply below_alloc | apply pw_below_drewN | apply below_drew1 | refine below_set ?_ GE137.out) | exact HB.out)⟩
        ·as_aux_lemma =>
         rw [if_neg c104] at H
         have c104b0 : decide (64 < (l0_4.length : Int)) = false := decide_eq_false c104
         have c104b1 : decide (64 < l0_4.length) = false := decide_eq_false (by omega)
         clear c104
         have H' := Aside0.mk H
         clear H
         obtain ⟨hcz106_0, hcz106_1, hcz106_2, hcz106_3, hcz106_4, hfz106_0, hfz106_1, hfz106_2, hfz106_3, hfz106_4⟩ := c5_ BK137
         go_wp2
         go_loopg [5] k2 (fun kq v5 w' => ∃ (x5_3 : Int), v5 = .int .i64 x5_3 ∧ Aside0 (idiomref07_Check.l1 kq x5_3 a0_0 a0_1 a0_2 l0_3 l0_4 = some r) ∧ Aside0 (kq ≤ k2) ∧ Aside0 (w'.heap[gb137]? = some (.cells #[.string a0_0, .string a0_1, .string a0_2, (.slice A0_3 l0_3.length c0_3), (.slice A0_4 l0_4.length c0_4)] 25 (0, 0))) ∧ Aside0 (Below w.heap.size w w'))
         case atStart => exact ⟨(0), (by first | rfl | (simp; done) | (simp [*]; done)), H', ⟨Nat.le_refl _⟩, ⟨by (with_reducible repeat (first | refine blk_drewN ?_ _ | refine blk_drew ?_ | refine blk_alloc ?_ _)); exact BK137.out⟩, ⟨by repeat (first | (with_reducible first | exact HB.out | apply below_alloc | apply pw_below_drewN | apply below_drew1 | refine below_set ?_ GE137.out) | exact HB.out)⟩⟩
         case round =>
          clear H'
          clear c81b0 c104b0 c104b1 hcz106_0 hcz106_1 hcz106_2 hcz106_3 hcz106_4 hfz106_0 hfz106_1 hfz106_2 hfz106_3 hfz106_4
          obtain ⟨x5_3, rfl, HA, HK3, BK137, HB⟩ := hrel
          cases gk with
          | zero => exact absurd HA.out (by simp [idiomref07_Check.l1])
          | succ k3 =>
           have H := HA.out
           clear HA
           simp only [idiomref07_Check.l1] at H
           by_cases c107 : x5_3 < (l0_4.length : Int)
           ·as_aux_lemma =>
            rw [if_pos c107] at H
            have c107b0 : decide (x5_3 < (l0_4.length : Int)) = true := decide_eq_true c107
            clear c107
            by_cases c108 : 0 ≤ x5_3
            ·as_aux_lemma =>
             rw [if_pos c108] at H
             have c108b0 : decide (0 ≤ x5_3) = true := decide_eq_true c108
             clear c108
             have HC109 := Aside0.mk H
             clear H
             obtain ⟨hcz110_0, hcz110_1, hcz110_2, hcz110_3, hcz110_4, hfz110_0, hfz110_1, hfz110_2, hfz110_3, hfz110_4⟩ := c5_ BK137
             have p157 : 0 ≤ (x5_3 : Int) := of_decide_eq_true (by first | (with_reducible assumption) | assumption)
             have q157 : x5_3 < (l0_4.length : Int) := of_decide_eq_true (by first | (with_reducible assumption) | assumption)
             obtain ⟨ad157, e157, hx157_0, hx157_1⟩ := at_T39 HR0_4.out x5_3 p157 q157
             cases e157
             replace hx157_0 := (HB.out.cell (World.block_lt_of_cell? w _ hx157_0)).trans hx157_0
             replace hx157_1 := (HB.out.cell (World.block_lt_of_cell? w _ hx157_1)).trans hx157_1
             replace p157 := eq_true p157
             replace q157 := eq_true q157
             go_upto_region 21 with (first | (refine bx_ 6 #[.string (⟨#[]⟩ : ByteArray), .string (⟨#[]⟩ : ByteArray)] 39 ?_; intro gb158 hg w111 hbox hb; have BK158 := Aside0.mk (hbox); have GW158 := Aside0.mk ((by rw [hg]; exact (below_size (by repeat (first | (with_reducible first | exact HB.out | apply below_alloc | apply pw_below_drewN | apply below_drew1 | refine below_set ?_ GE137.out) | exact HB.out))) : w.heap.size ≤ gb158)); have GE158 := Aside0.mk ((by rw [hg]; exact (below_size (by repeat (first | (with_reducible first | exact HB.out | apply below_alloc | apply pw_below_drewN | apply below_drew1 | refine below_set ?_ GE137.out) | exact HB.out))) : w.heap.size ≤ gb158)); replace HB := Aside0.mk (below_step (by repeat (first | (with_reducible first | exact HB.out | apply below_alloc | apply pw_below_drewN | apply below_drew1 | refine below_set ?_ GE137.out) | exact HB.out)) hb); have NB137_158 := Aside0.mk ((by rw [hg]; exact Nat.ne_of_lt (blk_lt (g := gb137) (o := .cells #[.string a0_0, .string a0_1, .string a0_2, .slice A0_3 l0_3.length c0_3, .slice (some ad157) l0_4.length c0_4] 25 (0, 0)) (bk_ BK137)) : gb137 ≠ gb158)); have NB158_137 := Aside0.mk ((by rw [hg]; exact Nat.ne_of_gt (blk_lt (g := gb137) (o := .cells #[.string a0_0, .string a0_1, .string a0_2, .slice A0_3 l0_3.length c0_3, .slice (some ad157) l0_4.length c0_4] 25 (0, 0)) (bk_ BK137)) : gb158 ≠ gb137)); replace BK137 := Aside0.mk (blk_below (g := gb137) (o := .cells #[.string a0_0, .string a0_1, .string a0_2, .slice A0_3 l0_3.length c0_3, .slice (some ad157) l0_4.length c0_4] 25 (0, 0)) (bk_ BK137) hb); clear hb hbox hg; have hnb112 := NB158_137.out; have hnc112 := NB137_158.out; have hcz113_0 : w111.cell? ⟨gb158, 0, none⟩ = some (.string (⟨#[]⟩ : ByteArray)) := (blk_cell BK158.out 0).trans rfl; have hcz113_1 : w111.cell? ⟨gb158, 1, none⟩ = some (.string (⟨#[]⟩ : ByteArray)) := (blk_cell BK158.out 1).trans rfl; have hfz113_0 := blk_frozen BK158.out 0; have hfz113_1 := blk_frozen BK158.out 1))
             (try simp only [Act.put, List.setIfInBounds_toArray, List.set_cons_zero, List.set_cons_succ])
             go_cut [149] (fun v149 wc => ∃ (kq : Nat) (x149_108 : Bool), v149 = .bool x149_108 ∧ Aside0 (idiomref07_Check.j6 kq x5_3 x149_108 a0_0 a0_1 a0_2 l0_3 l0_4 ((rd_T39 l0_4 x5_3).f0) ((rd_T39 l0_4 x5_3).f1) = some r) ∧ Aside0 (kq ≤ k3) ∧ Aside0 (wc.heap[gb137]? = some (.cells #[.string a0_0, .string a0_1, .string a0_2, (.slice A0_3 l0_3.length c0_3), (.slice (some ad157) l0_4.length c0_4)] 25 (0, 0))) ∧ Aside0 (wc.heap[gb158]? = some (.cells #[.string ((rd_T39 l0_4 x5_3).f0), .string ((rd_T39 l0_4 x5_3).f1)] 39 (0, 0))) ∧ Aside0 (Below w.heap.size w wc))
             case first =>
              have H := HC109.out
              clear HC109
              replace H := Option.bind_eq_some_iff.mp H
              obtain ⟨t159, A1140, H⟩ := H
              try dsimp only at H
              have A114 := Aside0.mk A1140
              clear A1140
              by_cases c115 : t159 = true
              ·as_aux_lemma =>
               subst c115
               have H1 : ((idiomref07_Small.f ((rd_T39 l0_4 x5_3).f0)).bind fun t160 => (if t160.toList = ((rd_T39 l0_4 x5_3).f0).toList then ((idiomref07_value.f k3 ((rd_T39 l0_4 x5_3).f1)).bind fun t161 => (idiomref07_Check.j6 k3 x5_3 (!t161) a0_0 a0_1 a0_2 l0_3 l0_4 ((rd_T39 l0_4 x5_3).f0) ((rd_T39 l0_4 x5_3).f1))) else (idiomref07_Check.j6 k3 x5_3 true a0_0 a0_1 a0_2 l0_3 l0_4 ((rd_T39 l0_4 x5_3).f0) ((rd_T39 l0_4 x5_3).f1)))) = some r := by rw [if_pos rfl] at H; exact H
               clear H
               have H := H1
               clear H1
               replace H := Option.bind_eq_some_iff.mp H
               obtain ⟨t160, A1160, H⟩ := H
               try dsimp only at H
               have A116 := Aside0.mk A1160
               clear A1160
               by_cases c117 : t160.toList = ((rd_T39 l0_4 x5_3).f0).toList
               ·as_aux_lemma =>
                rw [if_pos c117] at H
                have c117b0 : (t160.toList == ((rd_T39 l0_4 x5_3).f0).toList) = true := beq_iff_eq.mpr c117
                have c117b1 : (t160.toList != ((rd_T39 l0_4 x5_3).f0).toList) = false := bne_eq_false_iff_eq.mpr c117
                clear c117
                (first | rw [c117b0] | rw [c117b1] | rw [c117b2] | (simp only [i64_w, i32_w]; rw [c117b0]) | skip)
                (try simp only [Bool.not_true, Bool.not_false])
                replace H := Option.bind_eq_some_iff.mp H
                obtain ⟨t161, A1180, H⟩ := H
                try dsimp only at H
                have A118 := Aside0.mk A1180
                clear A1180
                have H' := Aside0.mk H
                clear H
                try go_wp2
                have n0_ : Aside0 (((w111.setCell ⟨gb158, 0, none⟩ (.string ((rd_T39 l0_4 x5_3).f0))).setCell ⟨gb158, 1, none⟩ (.string ((rd_T39 l0_4 x5_3).f1))).heap[gb137]? = some (.cells #[.string a0_0, .string a0_1, .string a0_2, .slice A0_3 l0_3.length c0_3, .slice (some ad157) l0_4.length c0_4] 25 (0, 0))) := ⟨by (with_reducible repeat (first | refine blk_drewN ?_ _ | refine blk_drew ?_ | refine blk_alloc ?_ _)); refine blk_far ?_ NB137_158.out _; (with_reducible repeat (first | refine blk_drewN ?_ _ | refine blk_drew ?_ | refine blk_alloc ?_ _)); refine blk_far ?_ NB137_158.out _; (with_reducible repeat (first | refine blk_drewN ?_ _ | refine blk_drew ?_ | refine blk_alloc ?_ _)); exact BK137.out⟩
                have n1_ : Aside0 (((w111.setCell ⟨gb158, 0, none⟩ (.string ((rd_T39 l0_4 x5_3).f0))).setCell ⟨gb158, 1, none⟩ (.string ((rd_T39 l0_4 x5_3).f1))).heap[gb158]? = some (.cells #[.string ((rd_T39 l0_4 x5_3).f0), .string ((rd_T39 l0_4 x5_3).f1)] 39 (0, 0))) := ⟨by (with_reducible repeat (first | refine blk_drewN ?_ _ | refine blk_drew ?_ | refine blk_alloc ?_ _)); refine blk_put (cs := #[.string ((rd_T39 l0_4 x5_3).f0), .string (⟨#[]⟩ : ByteArray)]) ?_ 1 _ rfl; (with_reducible repeat (first | refine blk_drewN ?_ _ | refine blk_drew ?_ | refine blk_alloc ?_ _)); refine blk_put (cs := #[.string (⟨#[]⟩ : ByteArray), .string (⟨#[]⟩ : ByteArray)]) ?_ 0 _ rfl; (with_reducible repeat (first | refine blk_drewN ?_ _ | refine blk_drew ?_ | refine blk_alloc ?_ _)); exact BK158.out⟩
                have n2_ : Aside0 (Below w.heap.size w ((w111.setCell ⟨gb158, 0, none⟩ (.string ((rd_T39 l0_4 x5_3).f0))).setCell ⟨gb158, 1, none⟩ (.string ((rd_T39 l0_4 x5_3).f1)))) := ⟨by repeat (first | (with_reducible first | exact HB.out | apply below_alloc | apply pw_below_drewN | apply below_drew1 | refine below_set ?_ GE137.out | refine below_set ?_ GE158.out) | exact HB.out)⟩
                (try clear BK137)
                (try clear BK158)
                (try clear HB)
                generalize ((w111.setCell ⟨gb158, 0, none⟩ (.string ((rd_T39 l0_4 x5_3).f0))).setCell ⟨gb158, 1, none⟩ (.string ((rd_T39 l0_4 x5_3).f1))) = w119 at n0_ n1_ n2_ ⊢
                have BK137 := n0_
                have BK158 := n1_
                have HB := n2_
                clear n0_ n1_ n2_
                replace BK137 := Aside0.mk (blk_drew BK137.out)
                replace BK158 := Aside0.mk (blk_drew BK158.out)
                replace HB := Aside0.mk (below_drew1 HB.out)
                refine start_ (n := 18) (S := fun w' => w'.cell? ⟨gb158, 0, none⟩ = some (.string ((rd_T39 l0_4 x5_3).f0)) ∧ w'.cell? ⟨gb158, 1, none⟩ = some (.string ((rd_T39 l0_4 x5_3).f1))) (ds := []) (bmp 18 0) (by kernel_rfl) rfl rfl ⟨(blk_cell BK158.out 0).trans rfl, (blk_cell BK158.out 1).trans rfl⟩ (fun hHeld => ?_); refine with_tabW idiomref07_Check.tab21 idiomref07_Check.bits21 (fun HT_ HW_ => ?_)
                generalize w119.drew = w120 at BK137 BK158 HB hHeld ⊢
                iterate 2 (first | refine pu_ HT_ ?_ | refine tk_ HT_ HW_ hHeld ?_)
                refine one_ (i := 2) (N := some 134) (bmp 18 3) rfl rfl (one_of HT_.out (by kernel_rfl)) (by decide) (fun K hK => ?_)
                refine goes_ Tryz.func35 (by kernel_rfl) rfl #[.string ((rd_T39 l0_4 x5_3).f0), .int .i64 2, .int .i64 2] (by rfl) rfl rfl (by (try simp only [List.map_toArray, List.map_cons, List.map_nil]); first | done | rfl | (simp only [List.length_drop, List.length_take]; rfl)) ?_
                with_reducible refine (idiomref07_signs.calls k3 ((rd_T39 l0_4 x5_3).f0) 2 2 true _ A114.out).mono ?_
                rintro e w' ⟨rfl, ⟨nd, rfl⟩⟩
                refine ⟨_, rfl, ?_⟩
                refine hK.out _ _ ⟨(blk_cell BK158.out 0).trans rfl, (blk_cell BK158.out 1).trans rfl⟩ (fun hHeld => ?_)
                clear hK K
                refine norm_ (a' := ?_) ?_ ?_
                rotate_left
                ·as_aux_lemma =>
                 show Act.put _ (some 134) _ = _
                 simp only [Act.put, List.setIfInBounds_toArray, List.set_cons_zero, List.set_cons_succ, i64_w, i32_w]
                 rfl
                iterate 3 (refine pu_ HT_ ?_)
                refine pg_ 8 (bm 18 319) HT_ ?_
                refine tg_ 6 (bm 18 383) HT_ HW_ hHeld ?_
                refine tg_ 9 (bm 18 895) HT_ HW_ hHeld ?_
                refine one_ (i := 7) (N := some 139) (bmp 18 10) rfl rfl (one_of HT_.out (by kernel_rfl)) (by decide) (fun K hK => ?_)
                refine goes_ Tryz.func29 (by kernel_rfl) rfl #[.string ((rd_T39 l0_4 x5_3).f0)] (by rfl) rfl rfl (by (try simp only [List.map_toArray, List.map_cons, List.map_nil]); first | done | rfl | (simp only [List.length_drop, List.length_take]; rfl)) ?_
                with_reducible refine (idiomref07_Small.calls ((rd_T39 l0_4 x5_3).f0) t160 _ A116.out).mono ?_
                rintro e w121 ⟨rfl, hb⟩
                refine ⟨_, rfl, ?_⟩
                replace BK137 := Aside0.mk (blk_below (g := gb137) (o := .cells #[.string a0_0, .string a0_1, .string a0_2, .slice A0_3 l0_3.length c0_3, .slice (some ad157) l0_4.length c0_4] 25 (0, 0)) (bk_ BK137) hb)
                replace BK158 := Aside0.mk (blk_below (g := gb158) (o := .cells #[.string ((rd_T39 l0_4 x5_3).f0), .string ((rd_T39 l0_4 x5_3).f1)] 39 (0, 0)) (bk_ BK158) hb)
                replace HB := Aside0.mk (below_step (by repeat (first | (with_reducible first | exact HB.out | apply below_alloc | apply pw_below_drewN | apply below_drew1 | refine below_set ?_ GE137.out | refine below_set ?_ GE158.out) | exact HB.out)) hb)
                (try clear hb)
                (try clear hb2)
                (try clear hk)
                (try clear hi)
                refine hK.out _ _ ⟨(blk_cell BK158.out 0).trans rfl, (blk_cell BK158.out 1).trans rfl⟩ (fun hHeld => ?_)
                clear hK K
                refine norm_ (a' := ?_) ?_ ?_
                rotate_left
                ·as_aux_lemma =>
                 show Act.put _ (some 139) _ = _
                 simp only [Act.put, List.setIfInBounds_toArray, List.set_cons_zero, List.set_cons_succ, i64_w, i32_w]
                 rfl
                iterate 5 (first | refine pu_ HT_ ?_ | refine tk_ HT_ HW_ hHeld ?_)
                refine one_ (i := 15) (N := some 147) (bmp 18 16) rfl rfl (one_of HT_.out (by kernel_rfl)) (by decide) (fun K hK => ?_)
                refine goes_ Tryz.func36 (by kernel_rfl) rfl #[.string ((rd_T39 l0_4 x5_3).f1)] (by rfl) rfl rfl (by (try simp only [List.map_toArray, List.map_cons, List.map_nil]); first | done | rfl | (simp only [List.length_drop, List.length_take]; rfl)) ?_
                with_reducible refine (idiomref07_value.calls k3 ((rd_T39 l0_4 x5_3).f1) t161 _ A118.out).mono ?_
                rintro e w122 ⟨rfl, hb⟩
                refine ⟨_, rfl, ?_⟩
                replace BK137 := Aside0.mk (blk_below (g := gb137) (o := .cells #[.string a0_0, .string a0_1, .string a0_2, .slice A0_3 l0_3.length c0_3, .slice (some ad157) l0_4.length c0_4] 25 (0, 0)) (bk_ BK137) hb)
                replace BK158 := Aside0.mk (blk_below (g := gb158) (o := .cells #[.string ((rd_T39 l0_4 x5_3).f0), .string ((rd_T39 l0_4 x5_3).f1)] 39 (0, 0)) (bk_ BK158) hb)
                replace HB := Aside0.mk (below_step (by repeat (first | (with_reducible first | exact HB.out | apply below_alloc | apply pw_below_drewN | apply below_drew1 | refine below_set ?_ GE137.out | refine below_set ?_ GE158.out) | exact HB.out)) hb)
                (try clear hb)
                (try clear hb2)
                (try clear hk)
                (try clear hi)
                refine hK.out _ _ ⟨(blk_cell BK158.out 0).trans rfl, (blk_cell BK158.out 1).trans rfl⟩ (fun hHeld => ?_)
                clear hK K
                refine norm_ (a' := ?_) ?_ ?_
                rotate_left
                ·as_aux_lemma =>
                 show Act.put _ (some 147) _ = _
                 simp only [Act.put, List.setIfInBounds_toArray, List.set_cons_zero, List.set_cons_succ, i64_w, i32_w]
                 rfl
                iterate 2 (refine pu_ HT_ ?_)
                refine dg_ HT_ ?_
                try go_wp2
                go_meet
                case rel => exact ⟨_, (!t161), (by first | rfl | (simp; done) | (simp [*]; done)), H', ⟨by have := HJ1.out; have := HK2.out; have := HK3.out; first | omega | exact Nat.le_refl _⟩, ⟨by (with_reducible repeat (first | refine blk_drewN ?_ _ | refine blk_drew ?_ | refine blk_alloc ?_ _)); exact BK137.out⟩, ⟨by (with_reducible repeat (first | refine blk_drewN ?_ _ | refine blk_drew ?_ | refine blk_alloc ?_ _)); exact BK158.out⟩, ⟨by repeat (first | (with_reducible first | exact HB.out | apply below_alloc | apply pw_below_drewN | apply below_drew1 | refine below_set ?_ GE137.out | refine below_set ?_ GE158.out) | exact HB.out)⟩⟩
               ·as_aux_lemma =>
                rw [if_neg c117] at H
                have c117b0 : (t160.toList == ((rd_T39 l0_4 x5_3).f0).toList) = false := beq_eq_false_iff_ne.mpr c117
                have c117b1 : (t160.toList != ((rd_T39 l0_4 x5_3).f0).toList) = true := bne_iff_ne.mpr c117
                (first | rw [c117b0] | rw [c117b1] | rw [c117b2] | (simp only [i64_w, i32_w]; rw [c117b0]) | skip)
                (try simp only [Bool.not_true, Bool.not_false])
                have H' := Aside0.mk H
                clear H
                try go_wp2
                have n0_ : Aside0 (((w111.setCell ⟨gb158, 0, none⟩ (.string ((rd_T39 l0_4 x5_3).f0))).setCell ⟨gb158, 1, none⟩ (.string ((rd_T39 l0_4 x5_3).f1))).heap[gb137]? = some (.cells #[.string a0_0, .string a0_1, .string a0_2, .slice A0_3 l0_3.length c0_3, .slice (some ad157) l0_4.length c0_4] 25 (0, 0))) := ⟨by (with_reducible repeat (first | refine blk_drewN ?_ _ | refine blk_drew ?_ | refine blk_alloc ?_ _)); refine blk_far ?_ NB137_158.out _; (with_reducible repeat (first | refine blk_drewN ?_ _ | refine blk_drew ?_ | refine blk_alloc ?_ _)); refine blk_far ?_ NB137_158.out _; (with_reducible repeat (first | refine blk_drewN ?_ _ | refine blk_drew ?_ | refine blk_alloc ?_ _)); exact BK137.out⟩
                have n1_ : Aside0 (((w111.setCell ⟨gb158, 0, none⟩ (.string ((rd_T39 l0_4 x5_3).f0))).setCell ⟨gb158, 1, none⟩ (.string ((rd_T39 l0_4 x5_3).f1))).heap[gb158]? = some (.cells #[.string ((rd_T39 l0_4 x5_3).f0), .string ((rd_T39 l0_4 x5_3).f1)] 39 (0, 0))) := ⟨by (with_reducible repeat (first | refine blk_drewN ?_ _ | refine blk_drew ?_ | refine blk_alloc ?_ _)); refine blk_put (cs := #[.string ((rd_T39 l0_4 x5_3).f0), .string (⟨#[]⟩ : ByteArray)]) ?_ 1 _ rfl; (with_reducible repeat (first | refine blk_drewN ?_ _ | refine blk_drew ?_ | refine blk_alloc ?_ _)); refine blk_put (cs := #[.string (⟨#[]⟩ : ByteArray), .string (⟨#[]⟩ : ByteArray)]) ?_ 0 _ rfl; (with_reducible repeat (first | refine blk_drewN ?_ _ | refine blk_drew ?_ | refine blk_alloc ?_ _)); exact BK158.out⟩
                have n2_ : Aside0 (Below w.heap.size w ((w111.setCell ⟨gb158, 0, none⟩ (.string ((rd_T39 l0_4 x5_3).f0))).setCell ⟨gb158, 1, none⟩ (.string ((rd_T39 l0_4 x5_3).f1)))) := ⟨by repeat (first | (with_reducible first | exact HB.out | apply below_alloc | apply pw_below_drewN | apply below_drew1 | refine below_set ?_ GE137.out | refine below_set ?_ GE158.out) | exact HB.out)⟩
                (try clear BK137)
                (try clear BK158)
                (try clear HB)
                generalize ((w111.setCell ⟨gb158, 0, none⟩ (.string ((rd_T39 l0_4 x5_3).f0))).setCell ⟨gb158, 1, none⟩ (.string ((rd_T39 l0_4 x5_3).f1))) = w123 at n0_ n1_ n2_ ⊢
                have BK137 := n0_
                have BK158 := n1_
                have HB := n2_
                clear n0_ n1_ n2_
                replace BK137 := Aside0.mk (blk_drew BK137.out)
                replace BK158 := Aside0.mk (blk_drew BK158.out)
                replace HB := Aside0.mk (below_drew1 HB.out)
                refine start_ (n := 18) (S := fun w' => w'.cell? ⟨gb158, 0, none⟩ = some (.string ((rd_T39 l0_4 x5_3).f0)) ∧ w'.cell? ⟨gb158, 1, none⟩ = some (.string ((rd_T39 l0_4 x5_3).f1))) (ds := []) (bmp 18 0) (by kernel_rfl) rfl rfl ⟨(blk_cell BK158.out 0).trans rfl, (blk_cell BK158.out 1).trans rfl⟩ (fun hHeld => ?_); refine with_tabW idiomref07_Check.tab21 idiomref07_Check.bits21 (fun HT_ HW_ => ?_)
                generalize w123.drew = w124 at BK137 BK158 HB hHeld ⊢
                iterate 2 (first | refine pu_ HT_ ?_ | refine tk_ HT_ HW_ hHeld ?_)
                refine one_ (i := 2) (N := some 134) (bmp 18 3) rfl rfl (one_of HT_.out (by kernel_rfl)) (by decide) (fun K hK => ?_)
                refine goes_ Tryz.func35 (by kernel_rfl) rfl #[.string ((rd_T39 l0_4 x5_3).f0), .int .i64 2, .int .i64 2] (by rfl) rfl rfl (by (try simp only [List.map_toArray, List.map_cons, List.map_nil]); first | done | rfl | (simp only [List.length_drop, List.length_take]; rfl)) ?_
                with_reducible refine (idiomref07_signs.calls k3 ((rd_T39 l0_4 x5_3).f0) 2 2 true _ A114.out).mono ?_
                rintro e w' ⟨rfl, ⟨nd, rfl⟩⟩
                refine ⟨_, rfl, ?_⟩
                refine hK.out _ _ ⟨(blk_cell BK158.out 0).trans rfl, (blk_cell BK158.out 1).trans rfl⟩ (fun hHeld => ?_)
                clear hK K
                refine norm_ (a' := ?_) ?_ ?_
                rotate_left
                ·as_aux_lemma =>
                 show Act.put _ (some 134) _ = _
                 simp only [Act.put, List.setIfInBounds_toArray, List.set_cons_zero, List.set_cons_succ, i64_w, i32_w]
                 rfl
                iterate 3 (refine pu_ HT_ ?_)
                refine pg_ 8 (bm 18 319) HT_ ?_
                refine tg_ 6 (bm 18 383) HT_ HW_ hHeld ?_
                refine tg_ 9 (bm 18 895) HT_ HW_ hHeld ?_
                refine one_ (i := 7) (N := some 139) (bmp 18 10) rfl rfl (one_of HT_.out (by kernel_rfl)) (by decide) (fun K hK => ?_)
                refine goes_ Tryz.func29 (by kernel_rfl) rfl #[.string ((rd_T39 l0_4 x5_3).f0)] (by rfl) rfl rfl (by (try simp only [List.map_toArray, List.map_cons, List.map_nil]); first | done | rfl | (simp only [List.length_drop, List.length_take]; rfl)) ?_
                with_reducible refine (idiomref07_Small.calls ((rd_T39 l0_4 x5_3).f0) t160 _ A116.out).mono ?_
                rintro e w125 ⟨rfl, hb⟩
                refine ⟨_, rfl, ?_⟩
                replace BK137 := Aside0.mk (blk_below (g := gb137) (o := .cells #[.string a0_0, .string a0_1, .string a0_2, .slice A0_3 l0_3.length c0_3, .slice (some ad157) l0_4.length c0_4] 25 (0, 0)) (bk_ BK137) hb)
                replace BK158 := Aside0.mk (blk_below (g := gb158) (o := .cells #[.string ((rd_T39 l0_4 x5_3).f0), .string ((rd_T39 l0_4 x5_3).f1)] 39 (0, 0)) (bk_ BK158) hb)
                replace HB := Aside0.mk (below_step (by repeat (first | (with_reducible first | exact HB.out | apply below_alloc | apply pw_below_drewN | apply below_drew1 | refine below_set ?_ GE137.out | refine below_set ?_ GE158.out) | exact HB.out)) hb)
                (try clear hb)
                (try clear hb2)
                (try clear hk)
                (try clear hi)
                refine hK.out _ _ ⟨(blk_cell BK158.out 0).trans rfl, (blk_cell BK158.out 1).trans rfl⟩ (fun hHeld => ?_)
                clear hK K
                refine norm_ (a' := ?_) ?_ ?_
                rotate_left
                ·as_aux_lemma =>
                 show Act.put _ (some 139) _ = _
                 simp only [Act.put, List.setIfInBounds_toArray, List.set_cons_zero, List.set_cons_succ, i64_w, i32_w]
                 rfl
                iterate 8 (first | refine sk_ HT_ ?_ | refine pu_ HT_ ?_)
                refine dg_ HT_ ?_
                try go_wp2
                go_meet
                case rel => exact ⟨_, (true), (by first | rfl | (simp; done) | (simp [*]; done)), H', ⟨by have := HJ1.out; have := HK2.out; have := HK3.out; first | omega | exact Nat.le_refl _⟩, ⟨by (with_reducible repeat (first | refine blk_drewN ?_ _ | refine blk_drew ?_ | refine blk_alloc ?_ _)); exact BK137.out⟩, ⟨by (with_reducible repeat (first | refine blk_drewN ?_ _ | refine blk_drew ?_ | refine blk_alloc ?_ _)); exact BK158.out⟩, ⟨by repeat (first | (with_reducible first | exact HB.out | apply below_alloc | apply pw_below_drewN | apply below_drew1 | refine below_set ?_ GE137.out | refine below_set ?_ GE158.out) | exact HB.out)⟩⟩
              ·as_aux_lemma =>
               replace c115 := Bool.eq_false_iff.mpr c115
               subst c115
               have H1 : (idiomref07_Check.j6 k3 x5_3 true a0_0 a0_1 a0_2 l0_3 l0_4 ((rd_T39 l0_4 x5_3).f0) ((rd_T39 l0_4 x5_3).f1)) = some r := by rw [if_neg (show ¬ (false = true) by decide)] at H; exact H
               clear H
               have H := H1
               clear H1
               have H' := Aside0.mk H
               clear H
               try go_wp2
               have n0_ : Aside0 (((w111.setCell ⟨gb158, 0, none⟩ (.string ((rd_T39 l0_4 x5_3).f0))).setCell ⟨gb158, 1, none⟩ (.string ((rd_T39 l0_4 x5_3).f1))).heap[gb137]? = some (.cells #[.string a0_0, .string a0_1, .string a0_2, .slice A0_3 l0_3.length c0_3, .slice (some ad157) l0_4.length c0_4] 25 (0, 0))) := ⟨by (with_reducible repeat (first | refine blk_drewN ?_ _ | refine blk_drew ?_ | refine blk_alloc ?_ _)); refine blk_far ?_ NB137_158.out _; (with_reducible repeat (first | refine blk_drewN ?_ _ | refine blk_drew ?_ | refine blk_alloc ?_ _)); refine blk_far ?_ NB137_158.out _; (with_reducible repeat (first | refine blk_drewN ?_ _ | refine blk_drew ?_ | refine blk_alloc ?_ _)); exact BK137.out⟩
               have n1_ : Aside0 (((w111.setCell ⟨gb158, 0, none⟩ (.string ((rd_T39 l0_4 x5_3).f0))).setCell ⟨gb158, 1, none⟩ (.string ((rd_T39 l0_4 x5_3).f1))).heap[gb158]? = some (.cells #[.string ((rd_T39 l0_4 x5_3).f0), .string ((rd_T39 l0_4 x5_3).f1)] 39 (0, 0))) := ⟨by (with_reducible repeat (first | refine blk_drewN ?_ _ | refine blk_drew ?_ | refine blk_alloc ?_ _)); refine blk_put (cs := #[.string ((rd_T39 l0_4 x5_3).f0), .string (⟨#[]⟩ : ByteArray)]) ?_ 1 _ rfl; (with_reducible repeat (first | refine blk_drewN ?_ _ | refine blk_drew ?_ | refine blk_alloc ?_ _)); refine blk_put (cs := #[.string (⟨#[]⟩ : ByteArray), .string (⟨#[]⟩ : ByteArray)]) ?_ 0 _ rfl; (with_reducible repeat (first | refine blk_drewN ?_ _ | refine blk_drew ?_ | refine blk_alloc ?_ _)); exact BK158.out⟩
               have n2_ : Aside0 (Below w.heap.size w ((w111.setCell ⟨gb158, 0, none⟩ (.string ((rd_T39 l0_4 x5_3).f0))).setCell ⟨gb158, 1, none⟩ (.string ((rd_T39 l0_4 x5_3).f1)))) := ⟨by repeat (first | (with_reducible first | exact HB.out | apply below_alloc | apply pw_below_drewN | apply below_drew1 | refine below_set ?_ GE137.out | refine below_set ?_ GE158.out) | exact HB.out)⟩
               (try clear BK137)
               (try clear BK158)
               (try clear HB)
               generalize ((w111.setCell ⟨gb158, 0, none⟩ (.string ((rd_T39 l0_4 x5_3).f0))).setCell ⟨gb158, 1, none⟩ (.string ((rd_T39 l0_4 x5_3).f1))) = w126 at n0_ n1_ n2_ ⊢
               have BK137 := n0_
               have BK158 := n1_
               have HB := n2_
               clear n0_ n1_ n2_
               replace BK137 := Aside0.mk (blk_drew BK137.out)
               replace BK158 := Aside0.mk (blk_drew BK158.out)
               replace HB := Aside0.mk (below_drew1 HB.out)
               refine start_ (n := 18) (S := fun w' => w'.cell? ⟨gb158, 0, none⟩ = some (.string ((rd_T39 l0_4 x5_3).f0)) ∧ w'.cell? ⟨gb158, 1, none⟩ = some (.string ((rd_T39 l0_4 x5_3).f1))) (ds := []) (bmp 18 0) (by kernel_rfl) rfl rfl ⟨(blk_cell BK158.out 0).trans rfl, (blk_cell BK158.out 1).trans rfl⟩ (fun hHeld => ?_); refine with_tabW idiomref07_Check.tab21 idiomref07_Check.bits21 (fun HT_ HW_ => ?_)
               generalize w126.drew = w127 at BK137 BK158 HB hHeld ⊢
               iterate 2 (first | refine pu_ HT_ ?_ | refine tk_ HT_ HW_ hHeld ?_)
               refine one_ (i := 2) (N := some 134) (bmp 18 3) rfl rfl (one_of HT_.out (by kernel_rfl)) (by decide) (fun K hK => ?_)
               refine goes_ Tryz.func35 (by kernel_rfl) rfl #[.string ((rd_T39 l0_4 x5_3).f0), .int .i64 2, .int .i64 2] (by rfl) rfl rfl (by (try simp only [List.map_toArray, List.map_cons, List.map_nil]); first | done | rfl | (simp only [List.length_drop, List.length_take]; rfl)) ?_
               with_reducible refine (idiomref07_signs.calls k3 ((rd_T39 l0_4 x5_3).f0) 2 2 false _ A114.out).mono ?_
               rintro e w' ⟨rfl, ⟨nd, rfl⟩⟩
               refine ⟨_, rfl, ?_⟩
               refine hK.out _ _ ⟨(blk_cell BK158.out 0).trans rfl, (blk_cell BK158.out 1).trans rfl⟩ (fun hHeld => ?_)
               clear hK K
               refine norm_ (a' := ?_) ?_ ?_
               rotate_left
               ·as_aux_lemma =>
                show Act.put _ (some 134) _ = _
                simp only [Act.put, List.setIfInBounds_toArray, List.set_cons_zero, List.set_cons_succ, i64_w, i32_w]
                rfl
               iterate 15 (first | refine sk_ HT_ ?_ | refine pu_ HT_ ?_)
               refine dg_ HT_ ?_
               try go_wp2
               go_meet
               case rel => exact ⟨_, (true), (by first | rfl | (simp; done) | (simp [*]; done)), H', ⟨by have := HJ1.out; have := HK2.out; have := HK3.out; first | omega | exact Nat.le_refl _⟩, ⟨by (with_reducible repeat (first | refine blk_drewN ?_ _ | refine blk_drew ?_ | refine blk_alloc ?_ _)); exact BK137.out⟩, ⟨by (with_reducible repeat (first | refine blk_drewN ?_ _ | refine blk_drew ?_ | refine blk_alloc ?_ _)); exact BK158.out⟩, ⟨by repeat (first | (with_reducible first | exact HB.out | apply below_alloc | apply pw_below_drewN | apply below_drew1 | refine below_set ?_ GE137.out | refine below_set ?_ GE158.out) | exact HB.out)⟩⟩
             case rest =>
              clear HC109
              clear hcz110_0 hcz110_1 hcz110_2 hcz110_3 hcz110_4 hcz113_0 hcz113_1 hfz110_0 hfz110_1 hfz110_2 hfz110_3 hfz110_4 hfz113_0 hfz113_1 hx157_0 hx157_1 p157 q157
              obtain ⟨kq, x149_108, rfl, HA, HJ108, BK137, BK158, HB⟩ := hcut
              cases kq with
              | zero => exact absurd HA.out (by simp [idiomref07_Check.j6])
              | succ kj108 =>
               have H := HA.out
               clear HA
               simp only [idiomref07_Check.j6] at H
               by_cases c128 : x149_108 = true
               ·as_aux_lemma =>
                subst c128
                have H1 : (some 70) = some r := by rw [if_pos rfl] at H; exact H
                clear H
                have H := H1
                clear H1
                obtain rfl := Option.some.inj H
                go_wp2
                go_ret
                exact ⟨by first | rfl | (simp [errW_none, errW_some] <;> rfl) | (simp [*, errW_none, errW_some] <;> rfl), by repeat (first | (with_reducible first | exact HB.out | apply below_alloc | apply pw_below_drewN | apply below_drew1 | refine below_set ?_ GE137.out | refine below_set ?_ GE158.out) | exact HB.out)⟩
               ·as_aux_lemma =>
                replace c128 := Bool.eq_false_iff.mpr c128
                subst c128
                have H1 : (if x5_3 > 0 then (if 0 ≤ (wrap64 (x5_3 - 1)) then (if (wrap64 (x5_3 - 1)) < (l0_4.length : Int) then (idiomref07_Check.j7 kj108 x5_3 (((rd_T39 l0_4 (wrap64 (x5_3 - 1))).f0).toList == ((rd_T39 l0_4 x5_3).f0).toList) a0_0 a0_1 a0_2 l0_3 l0_4 ((rd_T39 l0_4 x5_3).f0) ((rd_T39 l0_4 x5_3).f1)) else (none)) else (none)) else (idiomref07_Check.j7 kj108 x5_3 false a0_0 a0_1 a0_2 l0_3 l0_4 ((rd_T39 l0_4 x5_3).f0) ((rd_T39 l0_4 x5_3).f1))) = some r := by rw [if_neg (show ¬ (false = true) by decide)] at H; exact H
                clear H
                have H := H1
                clear H1
                have HC129 := Aside0.mk H
                clear H
                go_upto_region 23 with (fail)
                go_cut [163] (fun v163 wc => ∃ (kq : Nat) (x163_128 : Bool), v163 = .bool x163_128 ∧ Aside0 (idiomref07_Check.j7 kq x5_3 x163_128 a0_0 a0_1 a0_2 l0_3 l0_4 ((rd_T39 l0_4 x5_3).f0) ((rd_T39 l0_4 x5_3).f1) = some r) ∧ Aside0 (kq ≤ kj108) ∧ Aside0 (wc.heap[gb137]? = some (.cells #[.string a0_0, .string a0_1, .string a0_2, (.slice A0_3 l0_3.length c0_3), (.slice (some ad157) l0_4.length c0_4)] 25 (0, 0))) ∧ Aside0 (wc.heap[gb158]? = some (.cells #[.string ((rd_T39 l0_4 x5_3).f0), .string ((rd_T39 l0_4 x5_3).f1)] 39 (0, 0))) ∧ Aside0 (Below w.heap.size w wc))
                case first =>
                 have H := HC129.out
                 clear HC129
                 by_cases c130 : x5_3 > 0
                 ·as_aux_lemma =>
                  rw [if_pos c130] at H
                  have c130b0 : decide (0 < x5_3) = true := decide_eq_true c130
                  clear c130
                  (first | rw [c130b0] | rw [c130b1] | rw [c130b2] | (simp only [i64_w, i32_w]; rw [c130b0]) | skip)
                  (try simp only [Bool.not_true, Bool.not_false])
                  obtain ⟨ji131, hji131⟩ : ∃ j_ : Int, (wrap64 (x5_3 - 1)) = j_ := ⟨_, rfl⟩
                  replace H : (if 0 ≤ (ji131) then (if (ji131) < (l0_4.length : Int) then (idiomref07_Check.j7 kj108 x5_3 (((rd_T39 l0_4 (ji131)).f0).toList == ((rd_T39 l0_4 x5_3).f0).toList) a0_0 a0_1 a0_2 l0_3 l0_4 ((rd_T39 l0_4 x5_3).f0) ((rd_T39 l0_4 x5_3).f1)) else (none)) else (none)) = some r := by first | (rw [hji131] at H; exact H) | (simp only [hji131] at H ⊢; exact H)
                  have hji131w : (IntKind.i64.wrap (x5_3 - 1)) = ji131 := (i64_w _).trans hji131
                  by_cases c132 : 0 ≤ (ji131)
                  ·as_aux_lemma =>
                   rw [if_pos c132] at H
                   have c132b0 : decide (0 ≤ (ji131)) = true := decide_eq_true c132
                   clear c132
                   by_cases c133 : (ji131) < (l0_4.length : Int)
                   ·as_aux_lemma =>
                    rw [if_pos c133] at H
                    have c133b0 : decide ((ji131) < (l0_4.length : Int)) = true := decide_eq_true c133
                    clear c133
                    have H' := Aside0.mk H
                    clear H
                    try go_wp2
                    replace BK137 := Aside0.mk (blk_drew BK137.out)
                    replace BK158 := Aside0.mk (blk_drew BK158.out)
                    replace HB := Aside0.mk (below_drew1 HB.out)
                    have p162 : 0 ≤ ((ji131) : Int) := of_decide_eq_true (by first | (with_reducible assumption) | assumption)
                    have q162 : (ji131) < (l0_4.length : Int) := of_decide_eq_true (by first | (with_reducible assumption) | assumption)
                    obtain ⟨ad162, e162, hx162_0, hx162_1⟩ := at_T39 HR0_4.out (ji131) p162 q162
                    have hw162_1 := hx162_1
                    have hw162_0 := hx162_0
                    obtain rfl : ad157 = ad162 := (by injection e162)
                    replace hx162_0 := (HB.out.cell (World.block_lt_of_cell? w _ hx162_0)).trans hx162_0
                    replace hx162_1 := (HB.out.cell (World.block_lt_of_cell? w _ hx162_1)).trans hx162_1
                    replace p162 := eq_true p162
                    replace q162 := eq_true q162
                    refine start_ (n := 14) (S := fun w' => w'.cell? ⟨gb137, 0, none⟩ = some (.string a0_0) ∧ w'.cell? ⟨gb137, 1, none⟩ = some (.string a0_1) ∧ w'.cell? ⟨gb137, 2, none⟩ = some (.string a0_2) ∧ w'.cell? ⟨gb137, 3, none⟩ = some (.slice A0_3 l0_3.length c0_3) ∧ w'.cell? ⟨gb137, 4, none⟩ = some (.slice (some ad157) l0_4.length c0_4) ∧ w'.cell? ⟨gb158, 0, none⟩ = some (.string ((rd_T39 l0_4 x5_3).f0)) ∧ w'.cell? ⟨gb158, 1, none⟩ = some (.string ((rd_T39 l0_4 x5_3).f1)) ∧ w'.cell? (ad157.add (((ji131)).toNat * 2)) = some (.string ((rd_T39 l0_4 (ji131)).f0)) ∧ w'.cell? ⟨(ad157.add (((ji131)).toNat * 2)).block, (ad157.add (((ji131)).toNat * 2)).off + 1, none⟩ = some (.string ((rd_T39 l0_4 (ji131)).f1))) (ds := []) (bmp 14 0) (by kernel_rfl) rfl rfl ⟨(blk_cell BK137.out 0).trans rfl, (blk_cell BK137.out 1).trans rfl, (blk_cell BK137.out 2).trans rfl, (blk_cell BK137.out 3).trans rfl, (blk_cell BK137.out 4).trans rfl, (blk_cell BK158.out 0).trans rfl, (blk_cell BK158.out 1).trans rfl, ((HB.out.cell (World.block_lt_of_cell? w _ hw162_0)).trans hw162_0), ((HB.out.cell (World.block_lt_of_cell? w _ hw162_1)).trans hw162_1)⟩ (fun hHeld => ?_); refine with_tabW idiomref07_Check.tab23 idiomref07_Check.bits23 (fun HT_ HW_ => ?_)
                    generalize wc.drew = w134 at BK137 BK158 HB hx162_0 hx162_1 hHeld ⊢
                    iterate 4 (refine pu_ HT_ ?_)
                    refine pg_ 5 (bm 14 47) HT_ ?_
                    refine pg_ 6 (bm 14 111) HT_ ?_
                    refine pg_ 10 (bm 14 1135) HT_ ?_
                    refine tg_ 4 (bm 14 1151) HT_ HW_ hHeld ?_
                    refine pg_ 7 (bm 14 1279) HT_ ?_
                    refine pg_ 8 (bm 14 1535) HT_ ?_
                    refine tg_ 9 (bmp 14 11) HT_ HW_ hHeld ?_
                    iterate 3 (first | refine pu_ HT_ ?_ | refine tk_ HT_ HW_ hHeld ?_)
                    refine dg_ HT_ ?_
                    try go_wp2
                    go_meet
                    case rel => exact ⟨_, ((((rd_T39 l0_4 (ji131)).f0).toList == ((rd_T39 l0_4 x5_3).f0).toList)), (by first | rfl | (simp; done) | (simp only [← hji131] <;> (first | rfl | simp)) | (simp [*]; done)), H', ⟨by have := HJ1.out; have := HK2.out; have := HK3.out; have := HJ108.out; first | omega | exact Nat.le_refl _⟩, ⟨by (with_reducible repeat (first | refine blk_drewN ?_ _ | refine blk_drew ?_ | refine blk_alloc ?_ _)); exact BK137.out⟩, ⟨by (with_reducible repeat (first | refine blk_drewN ?_ _ | refine blk_drew ?_ | refine blk_alloc ?_ _)); exact BK158.out⟩, ⟨by repeat (first | (with_reducible first | exact HB.out | apply below_alloc | apply pw_below_drewN | apply below_drew1 | refine below_set ?_ GE137.out | refine below_set ?_ GE158.out) | exact HB.out)⟩⟩
                   ·as_aux_lemma =>
                    rw [if_neg c133] at H
                    exact absurd H (by simp)
                  ·as_aux_lemma =>
                   rw [if_neg c132] at H
                   exact absurd H (by simp)
                 ·as_aux_lemma =>
                  rw [if_neg c130] at H
                  have c130b0 : decide (0 < x5_3) = false := decide_eq_false c130
                  clear c130
                  (first | rw [c130b0] | rw [c130b1] | rw [c130b2] | (simp only [i64_w, i32_w]; rw [c130b0]) | skip)
                  (try simp only [Bool.not_true, Bool.not_false])
                  have H' := Aside0.mk H
                  clear H
                  try go_wp2
                  replace BK137 := Aside0.mk (blk_drew BK137.out)
                  replace BK158 := Aside0.mk (blk_drew BK158.out)
                  replace HB := Aside0.mk (below_drew1 HB.out)
                  refine start_ (n := 14) (S := fun w' => True) (ds := []) (bmp 14 0) (by kernel_rfl) rfl rfl trivial (fun hHeld => ?_); refine with_tabW idiomref07_Check.tab23 idiomref07_Check.bits23 (fun HT_ HW_ => ?_)
                  generalize wc.drew = w135 at BK137 BK158 HB hHeld ⊢
                  iterate 14 (first | refine sk_ HT_ ?_ | refine pu_ HT_ ?_)
                  refine dg_ HT_ ?_
                  try go_wp2
                  go_meet
                  case rel => exact ⟨_, (false), (by first | rfl | (simp; done) | (simp [*]; done)), H', ⟨by have := HJ1.out; have := HK2.out; have := HK3.out; have := HJ108.out; first | omega | exact Nat.le_refl _⟩, ⟨by (with_reducible repeat (first | refine blk_drewN ?_ _ | refine blk_drew ?_ | refine blk_alloc ?_ _)); exact BK137.out⟩, ⟨by (with_reducible repeat (first | refine blk_drewN ?_ _ | refine blk_drew ?_ | refine blk_alloc ?_ _)); exact BK158.out⟩, ⟨by repeat (first | (with_reducible first | exact HB.out | apply below_alloc | apply pw_below_drewN | apply below_drew1 | refine below_set ?_ GE137.out | refine below_set ?_ GE158.out) | exact HB.out)⟩⟩
                case rest =>
                 clear HC129
                 obtain ⟨kq, x163_128, rfl, HA, HJ128, BK137, BK158, HB⟩ := hcut
                 cases kq with
                 | zero => exact absurd HA.out (by simp [idiomref07_Check.j7])
                 | succ kj128 =>
                  have H := HA.out
                  clear HA
                  simp only [idiomref07_Check.j7] at H
                  by_cases c136 : x163_128 = true
                  ·as_aux_lemma =>
                   subst c136
                   have H1 : (some 6) = some r := by rw [if_pos rfl] at H; exact H
                   clear H
                   have H := H1
                   clear H1
                   obtain rfl := Option.some.inj H
                   go_wp2
                   go_ret
                   exact ⟨by first | rfl | (simp [errW_none, errW_some] <;> rfl) | (simp [*, errW_none, errW_some] <;> rfl), by repeat (first | (with_reducible first | exact HB.out | apply below_alloc | apply pw_below_drewN | apply below_drew1 | refine below_set ?_ GE137.out | refine below_set ?_ GE158.out) | exact HB.out)⟩
                  ·as_aux_lemma =>
                   replace c136 := Bool.eq_false_iff.mpr c136
                   subst c136
                   have H1 : (if x5_3 > 0 then (if 0 ≤ (wrap64 (x5_3 - 1)) then (if (wrap64 (x5_3 - 1)) < (l0_4.length : Int) then (idiomref07_Check.j8 kj128 x5_3 (Op.bytesLess ((rd_T39 l0_4 x5_3).f0).toList (((rd_T39 l0_4 (wrap64 (x5_3 - 1))).f0).toList)) a0_0 a0_1 a0_2 l0_3 l0_4) else (none)) else (none)) else (idiomref07_Check.j8 kj128 x5_3 false a0_0 a0_1 a0_2 l0_3 l0_4)) = some r := by rw [if_neg (show ¬ (false = true) by decide)] at H; exact H
                   clear H
                   have H := H1
                   clear H1
                   have HC137 := Aside0.mk H
                   clear H
                   go_upto_region 25 with (fail)
                   go_cut [177] (fun v177 wc => ∃ (kq : Nat) (x177_136 : Bool), v177 = .bool x177_136 ∧ Aside0 (idiomref07_Check.j8 kq x5_3 x177_136 a0_0 a0_1 a0_2 l0_3 l0_4 = some r) ∧ Aside0 (kq ≤ kj128) ∧ Aside0 (wc.heap[gb137]? = some (.cells #[.string a0_0, .string a0_1, .string a0_2, (.slice A0_3 l0_3.length c0_3), (.slice (some ad157) l0_4.length c0_4)] 25 (0, 0))) ∧ Aside0 (wc.heap[gb158]? = some (.cells #[.string ((rd_T39 l0_4 x5_3).f0), .string ((rd_T39 l0_4 x5_3).f1)] 39 (0, 0))) ∧ Aside0 (Below w.heap.size w wc))
                   case first =>
                    have H := HC137.out
                    clear HC137
                    by_cases c138 : x5_3 > 0
                    ·as_aux_lemma =>
                     rw [if_pos c138] at H
                     have c138b0 : decide (0 < x5_3) = true := decide_eq_true c138
                     clear c138
                     (first | rw [c138b0] | rw [c138b1] | rw [c138b2] | (simp only [i64_w, i32_w]; rw [c138b0]) | skip)
                     (try simp only [Bool.not_true, Bool.not_false])
                     obtain ⟨ji139, hji139⟩ : ∃ j_ : Int, (wrap64 (x5_3 - 1)) = j_ := ⟨_, rfl⟩
                     replace H : (if 0 ≤ (ji139) then (if (ji139) < (l0_4.length : Int) then (idiomref07_Check.j8 kj128 x5_3 (Op.bytesLess ((rd_T39 l0_4 x5_3).f0).toList (((rd_T39 l0_4 (ji139)).f0).toList)) a0_0 a0_1 a0_2 l0_3 l0_4) else (none)) else (none)) = some r := by first | (rw [hji139] at H; exact H) | (simp only [hji139] at H ⊢; exact H)
                     have hji139w : (IntKind.i64.wrap (x5_3 - 1)) = ji139 := (i64_w _).trans hji139
                     by_cases c140 : 0 ≤ (ji139)
                     ·as_aux_lemma =>
                      rw [if_pos c140] at H
                      have c140b0 : decide (0 ≤ (ji139)) = true := decide_eq_true c140
                      clear c140
                      by_cases c141 : (ji139) < (l0_4.length : Int)
                      ·as_aux_lemma =>
                       rw [if_pos c141] at H
                       have c141b0 : decide ((ji139) < (l0_4.length : Int)) = true := decide_eq_true c141
                       clear c141
                       have H' := Aside0.mk H
                       clear H
                       try go_wp2
                       replace BK137 := Aside0.mk (blk_drew BK137.out)
                       replace BK158 := Aside0.mk (blk_drew BK158.out)
                       replace HB := Aside0.mk (below_drew1 HB.out)
                       have p163 : 0 ≤ ((ji139) : Int) := of_decide_eq_true (by first | (with_reducible assumption) | assumption)
                       have q163 : (ji139) < (l0_4.length : Int) := of_decide_eq_true (by first | (with_reducible assumption) | assumption)
                       obtain ⟨ad163, e163, hx163_0, hx163_1⟩ := at_T39 HR0_4.out (ji139) p163 q163
                       have hw163_1 := hx163_1
                       have hw163_0 := hx163_0
                       obtain rfl : ad157 = ad163 := (by injection e163)
                       replace hx163_0 := (HB.out.cell (World.block_lt_of_cell? w _ hx163_0)).trans hx163_0
                       replace hx163_1 := (HB.out.cell (World.block_lt_of_cell? w _ hx163_1)).trans hx163_1
                       replace p163 := eq_true p163
                       replace q163 := eq_true q163
                       refine start_ (n := 14) (S := fun w' => w'.cell? ⟨gb137, 0, none⟩ = some (.string a0_0) ∧ w'.cell? ⟨gb137, 1, none⟩ = some (.string a0_1) ∧ w'.cell? ⟨gb137, 2, none⟩ = some (.string a0_2) ∧ w'.cell? ⟨gb137, 3, none⟩ = some (.slice A0_3 l0_3.length c0_3) ∧ w'.cell? ⟨gb137, 4, none⟩ = some (.slice (some ad157) l0_4.length c0_4) ∧ w'.cell? ⟨gb158, 0, none⟩ = some (.string ((rd_T39 l0_4 x5_3).f0)) ∧ w'.cell? ⟨gb158, 1, none⟩ = some (.string ((rd_T39 l0_4 x5_3).f1)) ∧ w'.cell? (ad157.add (((ji139)).toNat * 2)) = some (.string ((rd_T39 l0_4 (ji139)).f0)) ∧ w'.cell? ⟨(ad157.add (((ji139)).toNat * 2)).block, (ad157.add (((ji139)).toNat * 2)).off + 1, none⟩ = some (.string ((rd_T39 l0_4 (ji139)).f1))) (ds := []) (bmp 14 0) (by kernel_rfl) rfl rfl ⟨(blk_cell BK137.out 0).trans rfl, (blk_cell BK137.out 1).trans rfl, (blk_cell BK137.out 2).trans rfl, (blk_cell BK137.out 3).trans rfl, (blk_cell BK137.out 4).trans rfl, (blk_cell BK158.out 0).trans rfl, (blk_cell BK158.out 1).trans rfl, ((HB.out.cell (World.block_lt_of_cell? w _ hw163_0)).trans hw163_0), ((HB.out.cell (World.block_lt_of_cell? w _ hw163_1)).trans hw163_1)⟩ (fun hHeld => ?_); refine with_tabW idiomref07_Check.tab25 idiomref07_Check.bits25 (fun HT_ HW_ => ?_)
                       generalize wc.drew = w142 at BK137 BK158 HB hx163_0 hx163_1 hHeld ⊢
                       iterate 4 (refine pu_ HT_ ?_)
                       refine pg_ 5 (bm 14 47) HT_ ?_
                       refine pg_ 6 (bm 14 111) HT_ ?_
                       refine pg_ 10 (bm 14 1135) HT_ ?_
                       refine tg_ 4 (bm 14 1151) HT_ HW_ hHeld ?_
                       refine pg_ 7 (bm 14 1279) HT_ ?_
                       refine pg_ 8 (bm 14 1535) HT_ ?_
                       refine tg_ 9 (bmp 14 11) HT_ HW_ hHeld ?_
                       iterate 3 (first | refine pu_ HT_ ?_ | refine tk_ HT_ HW_ hHeld ?_)
                       refine dg_ HT_ ?_
                       try go_wp2
                       go_meet
                       case rel => exact ⟨_, ((Op.bytesLess ((rd_T39 l0_4 x5_3).f0).toList (((rd_T39 l0_4 (ji139)).f0).toList))), (by first | rfl | (simp; done) | (simp only [← hji139] <;> (first | rfl | simp)) | (simp [*]; done)), H', ⟨by have := HJ1.out; have := HK2.out; have := HK3.out; have := HJ108.out; have := HJ128.out; first | omega | exact Nat.le_refl _⟩, ⟨by (with_reducible repeat (first | refine blk_drewN ?_ _ | refine blk_drew ?_ | refine blk_alloc ?_ _)); exact BK137.out⟩, ⟨by (with_reducible repeat (first | refine blk_drewN ?_ _ | refine blk_drew ?_ | refine blk_alloc ?_ _)); exact BK158.out⟩, ⟨by repeat (first | (with_reducible first | exact HB.out | apply below_alloc | apply pw_below_drewN | apply below_drew1 | refine below_set ?_ GE137.out | refine below_set ?_ GE158.out) | exact HB.out)⟩⟩
                      ·as_aux_lemma =>
                       rw [if_neg c141] at H
                       exact absurd H (by simp)
                     ·as_aux_lemma =>
                      rw [if_neg c140] at H
                      exact absurd H (by simp)
                    ·as_aux_lemma =>
                     rw [if_neg c138] at H
                     have c138b0 : decide (0 < x5_3) = false := decide_eq_false c138
                     clear c138
                     (first | rw [c138b0] | rw [c138b1] | rw [c138b2] | (simp only [i64_w, i32_w]; rw [c138b0]) | skip)
                     (try simp only [Bool.not_true, Bool.not_false])
                     have H' := Aside0.mk H
                     clear H
                     try go_wp2
                     replace BK137 := Aside0.mk (blk_drew BK137.out)
                     replace BK158 := Aside0.mk (blk_drew BK158.out)
                     replace HB := Aside0.mk (below_drew1 HB.out)
                     refine start_ (n := 14) (S := fun w' => True) (ds := []) (bmp 14 0) (by kernel_rfl) rfl rfl trivial (fun hHeld => ?_); refine with_tabW idiomref07_Check.tab25 idiomref07_Check.bits25 (fun HT_ HW_ => ?_)
                     generalize wc.drew = w143 at BK137 BK158 HB hHeld ⊢
                     iterate 14 (first | refine sk_ HT_ ?_ | refine pu_ HT_ ?_)
                     refine dg_ HT_ ?_
                     try go_wp2
                     go_meet
                     case rel => exact ⟨_, (false), (by first | rfl | (simp; done) | (simp [*]; done)), H', ⟨by have := HJ1.out; have := HK2.out; have := HK3.out; have := HJ108.out; have := HJ128.out; first | omega | exact Nat.le_refl _⟩, ⟨by (with_reducible repeat (first | refine blk_drewN ?_ _ | refine blk_drew ?_ | refine blk_alloc ?_ _)); exact BK137.out⟩, ⟨by (with_reducible repeat (first | refine blk_drewN ?_ _ | refine blk_drew ?_ | refine blk_alloc ?_ _)); exact BK158.out⟩, ⟨by repeat (first | (with_reducible first | exact HB.out | apply below_alloc | apply pw_below_drewN | apply below_drew1 | refine below_set ?_ GE137.out | refine below_set ?_ GE158.out) | exact HB.out)⟩⟩
                   case rest =>
                    clear HC137
                    obtain ⟨kq, x177_136, rfl, HA, HJ136, BK137, BK158, HB⟩ := hcut
                    cases kq with
                    | zero => exact absurd HA.out (by simp [idiomref07_Check.j8])
                    | succ kj136 =>
                     have H := HA.out
                     clear HA
                     simp only [idiomref07_Check.j8] at H
                     by_cases c144 : x177_136 = true
                     ·as_aux_lemma =>
                      subst c144
                      have H1 : (some 70) = some r := by rw [if_pos rfl] at H; exact H
                      clear H
                      have H := H1
                      clear H1
                      obtain rfl := Option.some.inj H
                      go_wp2
                      go_ret
                      exact ⟨by first | rfl | (simp [errW_none, errW_some] <;> rfl) | (simp [*, errW_none, errW_some] <;> rfl), by repeat (first | (with_reducible first | exact HB.out | apply below_alloc | apply pw_below_drewN | apply below_drew1 | refine below_set ?_ GE137.out | refine below_set ?_ GE158.out) | exact HB.out)⟩
                     ·as_aux_lemma =>
                      replace c144 := Bool.eq_false_iff.mpr c144
                      subst c144
                      have H1 : (idiomref07_Check.l1 kj136 (wrap64 (x5_3 + 1)) a0_0 a0_1 a0_2 l0_3 l0_4) = some r := by rw [if_neg (show ¬ (false = true) by decide)] at H; exact H
                      clear H
                      have H := H1
                      clear H1
                      have H' := Aside0.mk H
                      clear H
                      go_wp2
                      go_roundg kj136
                      case measure => have := HJ1.out; have := HK2.out; have := HK3.out; have := HJ108.out; have := HJ128.out; have := HJ136.out; omega
                      case rel => exact ⟨(wrap64 (x5_3 + 1)), (by first | rfl | (simp; done) | (simp [*]; done)), H', ⟨by have := HJ1.out; have := HK2.out; have := HK3.out; have := HJ108.out; have := HJ128.out; have := HJ136.out; omega⟩, ⟨by (with_reducible repeat (first | refine blk_drewN ?_ _ | refine blk_drew ?_ | refine blk_alloc ?_ _)); exact BK137.out⟩, ⟨by repeat (first | (with_reducible first | exact HB.out | apply below_alloc | apply pw_below_drewN | apply below_drew1 | refine below_set ?_ GE137.out | refine below_set ?_ GE158.out) | exact HB.out)⟩⟩
            ·as_aux_lemma =>
             rw [if_neg c108] at H
             exact absurd H (by simp)
           ·as_aux_lemma =>
            rw [if_neg c107] at H
            have c107b0 : decide (x5_3 < (l0_4.length : Int)) = false := decide_eq_false c107
            clear c107
            obtain rfl := Option.some.inj H
            obtain ⟨hcz145_0, hcz145_1, hcz145_2, hcz145_3, hcz145_4, hfz145_0, hfz145_1, hfz145_2, hfz145_3, hfz145_4⟩ := c5_ BK137
            go_wp2
            go_ret
            exact ⟨by first | rfl | (simp [errW_none, errW_some] <;> rfl) | (simp [*, errW_none, errW_some] <;> rfl), by repeat (first | (with_reducible first | exact HB.out | apply below_alloc | apply pw_below_drewN | apply below_drew1 | refine below_set ?_ GE137.out) | exact HB.out)⟩
end Go.Proofs.YtphjhbppjakocaaGreatDoor.PTag
