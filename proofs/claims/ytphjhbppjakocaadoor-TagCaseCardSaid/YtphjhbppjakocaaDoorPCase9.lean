/- Printed by a program (the kit's print.py with changes of this session) out of Lean's own print of the program: functions of the program as plain Lean functions, and that each call comes to what they say; conditions: those that each theorem states. Not trusted: Lean checks it. -/
import Derived.Test.YtphjhbppjakocaaDoorPCase0
import Derived.Test.YtphjhbppjakocaaDoorBrief
import Derived.Test.YtphjhbppjakocaaDoorPCase2
namespace Go.Proofs.YtphjhbppjakocaaDoor.PTag
open Go.RowKit Go.Proofs.YtphjhbppjakocaaDoorW.PrintWords Go.Proofs.YtphjhbppjakocaaDoorW.PrintLast Go.Proofs.YtphjhbppjakocaaDoorW.PrintMore
attribute [local go_sem] max2_int min2_int max_two min_two max_three min_three max_four min_four   -- for this text's walks alone
set_option linter.unusedVariables false
set_option linter.unusedSimpArgs false

attribute [local go_sem] setCell_drewN_ cell_put_twice_ gtr_less_
/-! ### idiomlaw07_turned: idiom/idiomlaw07.turned, by hand -/
/-- The bit that is asked at a place. -/
def turnBit (a1 : Int) (i : Nat) : Bool := (Go.bits .and .u64 (a1 / 2 ^ (i % 64)) 1 == 0)
def turnB (x : UInt8) : UInt8 := if 97 ≤ x.toNat ∧ x.toNat ≤ 122 then UInt8.ofNat (x.toNat - 32) else if 65 ≤ x.toNat ∧ x.toNat ≤ 90 then UInt8.ofNat (x.toNat + 32) else if x.toNat = 45 then 95 else if x.toNat = 95 then 45 else x
def idiomlaw07_turned.g (a1 : Int) (i : Nat) (x : UInt8) : UInt8 := if turnBit a1 i = true then x else turnB x
def idiomlaw07_turned.f (a0 : ByteArray) (a1 : Int) : Option ByteArray := if a0.size ≤ 9223372036854775807 then some ⟨((a0.data.toList.mapIdx (idiomlaw07_turned.g a1))).toArray⟩ else none
def uAt (g : Nat → UInt8 → UInt8) (l : List UInt8) (i j : Nat) : UInt8 := if j < i then g j (l.getD j 0) else l.getD j 0
theorem uAt_old {g : Nat → UInt8 → UInt8} {l : List UInt8} {i j : Nat} (h : i ≤ j) : uAt g l i j = l.getD j 0 := if_neg (by omega)
theorem uAt_next {g : Nat → UInt8 → UInt8} {l : List UInt8} {i j : Nat} (h : j ≠ i) : uAt g l (i + 1) j = uAt g l i j := by
  unfold uAt
  by_cases h1 : j < i
  · rw [if_pos h1, if_pos (by omega)]
  · rw [if_neg h1, if_neg (by omega)]
theorem uAt_same {g : Nat → UInt8 → UInt8} {l : List UInt8} {i : Nat} (h : g i (l.getD i 0) = l.getD i 0) (j : Nat) : uAt g l (i + 1) j = uAt g l i j := by
  by_cases hj : j = i
  · subst hj
    unfold uAt
    rw [if_pos (by omega), if_neg (by omega), h]
  · exact uAt_next hj
theorem uAt_here {g : Nat → UInt8 → UInt8} {l : List UInt8} {i : Nat} : uAt g l (i + 1) i = g i (l.getD i 0) := if_pos (by omega)
theorem uAt_done {P : Program} {w : World} {b cap : Nat} {g : Nat → UInt8 → UInt8} {s : ByteArray} {src dst e : TypeId} (hs : P.underlying src = some (.slice e)) (he : P.underlying e = some (.int .u8)) (hd : P.underlying dst = some .string) (h : BytesAt w b s.size (uAt g s.data.toList s.size)) :
    (convert src dst (.slice (some ⟨b, 0, none⟩) s.size cap)).run P w = .ok (.string ⟨(s.data.toList.mapIdx g).toArray⟩) w := by
  refine h.back hs he hd (by simp) (fun j hj => ?_)
  simp only [List.length_mapIdx] at hj
  simp only [List.getElem_mapIdx]
  unfold uAt
  rw [if_pos (by simpa using hj), List.getD_eq_getElem?_getD, List.getElem?_eq_getElem hj]; rfl
set_option maxHeartbeats 4000000 in
set_option maxRecDepth 100000 in
theorem idiomlaw07_turned.calls (a0 : ByteArray) (a1 : Int) (r : ByteArray) (w : World) (h : idiomlaw07_turned.f a0 a1 = some r) :
    Calls Tryd.prog 5 #[.string a0, .int .u64 a1] w fun e w' => e = .returned (.string r) ∧ Below w.heap.size w w' := by
  unfold idiomlaw07_turned.f at h
  by_cases hs : a0.size ≤ 9223372036854775807
  · rw [if_pos hs] at h
    obtain rfl := Option.some.inj h
    clear h
    have hcv : ∀ W : World, (convert 9 48 (.string a0)).run Tryd.prog W = .ok (.slice (some ⟨W.heap.size, 0, none⟩) a0.size (grownCap W a0.size 0 5)) (Lib.bytesWorld W 5 a0) := fun W => Lib.run_convert_string_bytes W 9 48 5 a0 Tryd.underlying9 Tryd.underlying48 Tryd.underlying5
    have hB0 : Below w.heap.size w (Lib.bytesWorld w 5 a0) := bytes_below (Below.refl _ _) (Nat.le_refl _) 5 a0
    have hC0 : BytesAt (Lib.bytesWorld w 5 a0) w.heap.size a0.size (uAt (idiomlaw07_turned.g a1) a0.data.toList 0) := (BytesAt.conv w 5 a0).congr (fun j => uAt_old (Nat.zero_le _))
    go_enter Tryd.func5, Tryd.ntmps5
    go_wp2
    go_loopg [6] (a0.size + 1) (fun kq v6 w' => ∃ i : Nat, v6 = .int .i64 (i : Int) ∧ Aside0 (kq + i = a0.size + 1) ∧ Aside0 (i ≤ a0.size) ∧ Aside0 (BytesAt w' w.heap.size a0.size (uAt (idiomlaw07_turned.g a1) a0.data.toList i)) ∧ Aside0 (Below w.heap.size w w'))
    case atStart => exact ⟨0, rfl, ⟨rfl⟩, ⟨Nat.zero_le _⟩, ⟨hC0⟩, ⟨hB0⟩⟩
    case round =>
      obtain ⟨i, rfl, HK, HI, HC, HB⟩ := hrel
      cases gk with
      | zero => exact absurd HK.out (by have := HI.out; omega)
      | succ k1 =>
        by_cases c1 : i < a0.size
        · have t1 : decide ((i : Int) < (a0.size : Int)) = true := decide_eq_true (by omega)
          obtain ⟨x, hx⟩ : ∃ x, x = a0.data.toList.getD i 0 := ⟨_, rfl⟩
          have hcell := (HC.out i c1).1
          have hfz := (HC.out i c1).2
          rw [uAt_old (Nat.le_refl _), ← hx] at hcell
          have HX := Aside0.mk hx
          clear hx
          have hw1 : IntKind.i64.wrap ((i : Int) + 1) = (i : Int) + 1 := by simp [IntKind.wrap, IntKind.bits, IntKind.signed]; omega
          have hxl := x.toNat_lt
          have HXL := Aside0.mk hxl
          clear hxl
          by_cases ct : turnBit a1 i = true
          · have t2 : (Go.bits .and .u64 (a1 / 2 ^ (i % 64)) 1 == 0) = true := ct
            have hl : idiomlaw07_turned.g a1 i x = x := if_pos ct
            have HL := Aside0.mk hl
            clear hl ct
            go_wp2
            go_roundg k1
            case measure => omega
            case rel => exact ⟨i + 1, by go_num, ⟨by have := HK.out; omega⟩, ⟨by omega⟩, ⟨HC.out.congr (fun j => uAt_same (by rw [← HX.out]; exact HL.out) j)⟩, ⟨HB.out⟩⟩
          · have t2 : (Go.bits .and .u64 (a1 / 2 ^ (i % 64)) 1 == 0) = false := Bool.eq_false_iff.mpr ct
            have HT := Aside0.mk ct
            clear ct
            by_cases d1 : 97 ≤ x.toNat ∧ x.toNat ≤ 122
            · have t3 : decide ((97 : Int) ≤ (x.toNat : Int)) = true := decide_eq_true (by omega)
              have t4 : decide ((x.toNat : Int) ≤ 122) = true := decide_eq_true (by omega)
              have hgg : idiomlaw07_turned.g a1 i x = UInt8.ofNat (x.toNat - 32) := by unfold idiomlaw07_turned.g turnB; rw [if_neg HT.out]; rw [if_pos (by omega)]
              have HG := Aside0.mk hgg
              clear hgg
              have CA := Aside0.mk d1
              clear d1
              go_wp2
              go_roundg k1
              case measure => omega
              case rel => exact ⟨i + 1, by go_num, ⟨by have := HK.out; omega⟩, ⟨by omega⟩, ⟨HC.out.set (fun j hj => uAt_next hj) (by rw [uAt_here, ← HX.out, HG.out]; rw [UInt8.toNat_ofNat']; have := CA.out; first | omega | (simp [IntKind.wrap, IntKind.bits, IntKind.signed]; omega))⟩, ⟨HB.out.setCell (Nat.le_refl _) _⟩⟩
            · by_cases d2 : 65 ≤ x.toNat ∧ x.toNat ≤ 90
              · have t3 : decide ((97 : Int) ≤ (x.toNat : Int)) = false := decide_eq_false (by omega)
                have t4 : decide ((65 : Int) ≤ (x.toNat : Int)) = true := decide_eq_true (by omega)
                have t5 : decide ((x.toNat : Int) ≤ 90) = true := decide_eq_true (by omega)
                have hgg : idiomlaw07_turned.g a1 i x = UInt8.ofNat (x.toNat + 32) := by unfold idiomlaw07_turned.g turnB; rw [if_neg HT.out]; rw [if_neg (by omega), if_pos (by omega)]
                have HG := Aside0.mk hgg
                clear hgg
                have CA := Aside0.mk d2
                clear d1 d2
                go_wp2
                go_roundg k1
                case measure => omega
                case rel => exact ⟨i + 1, by go_num, ⟨by have := HK.out; omega⟩, ⟨by omega⟩, ⟨HC.out.set (fun j hj => uAt_next hj) (by rw [uAt_here, ← HX.out, HG.out]; rw [UInt8.toNat_ofNat']; have := CA.out; first | omega | (simp [IntKind.wrap, IntKind.bits, IntKind.signed]; omega))⟩, ⟨HB.out.setCell (Nat.le_refl _) _⟩⟩
              · by_cases d3 : x.toNat = 45
                · have t3 : decide ((97 : Int) ≤ (x.toNat : Int)) = false := decide_eq_false (by omega)
                  have t4 : decide ((65 : Int) ≤ (x.toNat : Int)) = false := decide_eq_false (by omega)
                  have t5 : ((x.toNat : Int) == 45) = true := beq_iff_eq.mpr (by omega)
                  have hgg : idiomlaw07_turned.g a1 i x = 95 := by unfold idiomlaw07_turned.g turnB; rw [if_neg HT.out]; rw [if_neg (by omega), if_neg (by omega), if_pos (by omega)]
                  have HG := Aside0.mk hgg
                  clear hgg
                  have CA := Aside0.mk d3
                  clear d1 d2 d3
                  go_wp2
                  go_roundg k1
                  case measure => omega
                  case rel => exact ⟨i + 1, by go_num, ⟨by have := HK.out; omega⟩, ⟨by omega⟩, ⟨HC.out.set (fun j hj => uAt_next hj) (by rw [uAt_here, ← HX.out, HG.out]; rfl)⟩, ⟨HB.out.setCell (Nat.le_refl _) _⟩⟩
                · by_cases d4 : x.toNat = 95
                  · have t3 : decide ((97 : Int) ≤ (x.toNat : Int)) = false := decide_eq_false (by omega)
                    have t4 : decide ((65 : Int) ≤ (x.toNat : Int)) = true := decide_eq_true (by omega)
                    have t5 : decide ((x.toNat : Int) ≤ 90) = false := decide_eq_false (by omega)
                    have t6 : ((x.toNat : Int) == 45) = false := beq_eq_false_iff_ne.mpr (by omega)
                    have t7 : ((x.toNat : Int) == 95) = true := beq_iff_eq.mpr (by omega)
                    have hgg : idiomlaw07_turned.g a1 i x = 45 := by unfold idiomlaw07_turned.g turnB; rw [if_neg HT.out]; rw [if_neg (by omega), if_neg (by omega), if_neg (by omega), if_pos (by omega)]
                    have HG := Aside0.mk hgg
                    clear hgg
                    have CA := Aside0.mk d4
                    clear d1 d2 d3 d4
                    go_wp2
                    go_roundg k1
                    case measure => omega
                    case rel => exact ⟨i + 1, by go_num, ⟨by have := HK.out; omega⟩, ⟨by omega⟩, ⟨HC.out.set (fun j hj => uAt_next hj) (by rw [uAt_here, ← HX.out, HG.out]; rfl)⟩, ⟨HB.out.setCell (Nat.le_refl _) _⟩⟩
                  · by_cases d5 : 122 < x.toNat
                    · have t3 : decide ((97 : Int) ≤ (x.toNat : Int)) = true := decide_eq_true (by omega)
                      have t4 : decide ((x.toNat : Int) ≤ 122) = false := decide_eq_false (by omega)
                      have t5 : decide ((65 : Int) ≤ (x.toNat : Int)) = true := decide_eq_true (by omega)
                      have t6 : decide ((x.toNat : Int) ≤ 90) = false := decide_eq_false (by omega)
                      have t7 : ((x.toNat : Int) == 45) = false := beq_eq_false_iff_ne.mpr (by omega)
                      have t8 : ((x.toNat : Int) == 95) = false := beq_eq_false_iff_ne.mpr (by omega)
                      have hl : idiomlaw07_turned.g a1 i x = x := by unfold idiomlaw07_turned.g turnB; rw [if_neg HT.out]; rw [if_neg (by omega), if_neg (by omega), if_neg (by omega), if_neg (by omega)]
                      have HL := Aside0.mk hl
                      clear hl
                      have CA := Aside0.mk d5
                      clear d1 d2 d3 d4 d5
                      go_wp2
                      go_roundg k1
                      case measure => omega
                      case rel => exact ⟨i + 1, by go_num, ⟨by have := HK.out; omega⟩, ⟨by omega⟩, ⟨HC.out.congr (fun j => uAt_same (by rw [← HX.out]; exact HL.out) j)⟩, ⟨HB.out⟩⟩
                    · by_cases d6 : x.toNat < 65
                      · have t3 : decide ((97 : Int) ≤ (x.toNat : Int)) = false := decide_eq_false (by omega)
                        have t4 : decide ((65 : Int) ≤ (x.toNat : Int)) = false := decide_eq_false (by omega)
                        have t5 : ((x.toNat : Int) == 45) = false := beq_eq_false_iff_ne.mpr (by omega)
                        have t6 : ((x.toNat : Int) == 95) = false := beq_eq_false_iff_ne.mpr (by omega)
                        have hl : idiomlaw07_turned.g a1 i x = x := by unfold idiomlaw07_turned.g turnB; rw [if_neg HT.out]; rw [if_neg (by omega), if_neg (by omega), if_neg (by omega), if_neg (by omega)]
                        have HL := Aside0.mk hl
                        clear hl
                        have CA := Aside0.mk d6
                        clear d1 d2 d3 d4 d5 d6
                        go_wp2
                        go_roundg k1
                        case measure => omega
                        case rel => exact ⟨i + 1, by go_num, ⟨by have := HK.out; omega⟩, ⟨by omega⟩, ⟨HC.out.congr (fun j => uAt_same (by rw [← HX.out]; exact HL.out) j)⟩, ⟨HB.out⟩⟩
                      · have t3 : decide ((97 : Int) ≤ (x.toNat : Int)) = false := decide_eq_false (by omega)
                        have t4 : decide ((65 : Int) ≤ (x.toNat : Int)) = true := decide_eq_true (by omega)
                        have t5 : decide ((x.toNat : Int) ≤ 90) = false := decide_eq_false (by omega)
                        have t6 : ((x.toNat : Int) == 45) = false := beq_eq_false_iff_ne.mpr (by omega)
                        have t7 : ((x.toNat : Int) == 95) = false := beq_eq_false_iff_ne.mpr (by omega)
                        have hl : idiomlaw07_turned.g a1 i x = x := by unfold idiomlaw07_turned.g turnB; rw [if_neg HT.out]; rw [if_neg (by omega), if_neg (by omega), if_neg (by omega), if_neg (by omega)]
                        have HL := Aside0.mk hl
                        clear hl
                        clear d1 d2 d3 d4 d5 d6
                        go_wp2
                        go_roundg k1
                        case measure => omega
                        case rel => exact ⟨i + 1, by go_num, ⟨by have := HK.out; omega⟩, ⟨by omega⟩, ⟨HC.out.congr (fun j => uAt_same (by rw [← HX.out]; exact HL.out) j)⟩, ⟨HB.out⟩⟩
        · have t1 : decide ((i : Int) < (a0.size : Int)) = false := decide_eq_false (by omega)
          have hi : i = a0.size := by have := HI.out; omega
          subst hi
          have hbk := uAt_done (P := Tryd.prog) (cap := grownCap w a0.size 0 5) Tryd.underlying48 Tryd.underlying5 Tryd.underlying9 HC.out
          go_wp2
          go_ret
          exact ⟨rfl, HB.out⟩
  · rw [if_neg hs] at h; cases h

end Go.Proofs.YtphjhbppjakocaaDoor.PTag
