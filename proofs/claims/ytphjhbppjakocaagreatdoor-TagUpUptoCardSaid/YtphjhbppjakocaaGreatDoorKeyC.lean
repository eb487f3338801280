/- Contains at rows of keys, by hand over the kit's summary; conditions: those that each theorem states. -/
import Derived.Test.YtphjhbppjakocaaGreatDoorPU0
import Derived.Test.YtphjhbppjakocaaGreatDoorShelf
import Derived.Test.YtphjhbppjakocaaGreatDoorBrief
import Derived.Test.YtphjhbppjakocaaGreatDoorTagA
namespace Go.Proofs.YtphjhbppjakocaaGreatDoor.PTag
open Go.RowKit Go.Proofs.YtphjhbppjakocaaGreatDoorW.PrintWords Go.Proofs.YtphjhbppjakocaaGreatDoorW.PrintLast Go.Proofs.YtphjhbppjakocaaGreatDoorW.PrintMore
attribute [local go_sem] max2_int min2_int max_two min_two max_three min_three max_four min_four
set_option linter.unusedVariables false
set_option linter.unusedSimpArgs false
attribute [local go_sem] setCell_drewN_ cell_put_twice_ gtr_less_
def keyEq_ (x y : S39) : Bool := x.f0.toList == y.f0.toList && x.f1.toList == y.f1.toList
theorem keyEqAt_ : EqlAt Tryz.prog 39 (fun x => .agg (encKey_ x).toArray) keyEq_ := by
  refine ⟨fun x y w => ?_, GuardAt.agg _ (by kernel_rfl)⟩
  have hS : Tryz.prog.underlying 39 = some (.struct (Tryz.prog.fieldsOf 39)) := by kernel_rfl
  have hp : Tryz.prog.stoodInHeld 39 = false := by kernel_rfl
  simp only [encKey_]
  rw [run_eql_struct, show (10000 : Nat) = 9999 + 1 from rfl, run_equalIn_agg w 9999 39 _ _ hS hp]
  simp only [Program.fieldsOf, Tryz.underlying39]
  have u9 := Tryz.underlying9
  have a9 := Tryz.isAgg9
  have z9 := Tryz.sizeOf9
  go_simp
  unfold keyEq_
  by_cases h1 : x.f0.toList = y.f0.toList <;> by_cases h2 : x.f1.toList = y.f1.toList <;> simp [h1, h2]
set_option maxRecDepth 100000 in
theorem indexKeyZero_ (A : Option Addr) (c : Nat) (s1 s2 : ByteArray) (w : World) :
    Calls Tryz.prog 68 #[.slice A 0 c, .agg #[.string s1, .string s2]] w fun e w' => e = .returned (.int .i64 (-1)) ∧ Below w.heap.size w w' := by
  go_enter Tryz.func68, Tryz.ntmps68
  go_wp2
  go_loop [5, 8] (fun _ i => i = .int .i64 0) (fun _ _ => 0)
  case atStart => rfl
  case round =>
    subst hrel
    go_wp2
    go_ret
    exact ⟨rfl, (Below.refl _ _).alloc (Nat.le_refl _) _⟩
set_option maxRecDepth 100000 in
theorem containsKeyZero_ (A : Option Addr) (c : Nat) (s1 s2 : ByteArray) (w : World) :
    Calls Tryz.prog 39 #[.slice A 0 c, .agg #[.string s1, .string s2]] w fun e w' => e = .returned (.bool false) ∧ Below w.heap.size w w' := by
  go_enter Tryz.func39, Tryz.ntmps39
  go_wp2_with (go_at_call 68; refine (indexKeyZero_ A c s1 s2 _).mono ?_; rintro e w' ⟨rfl, hb⟩)
  go_ret
  exact ⟨rfl, below_step ((Below.refl _ w).alloc (Nat.le_refl _) _) hb⟩
def api_Key_39.f (l0 : List S39) (a1_0 a1_1 : ByteArray) : Option Bool := if l0.length ≤ 4398046511104 then some (l0.any fun y => keyEq_ ⟨a1_0, a1_1⟩ y) else none
theorem api_Key_39.calls (A0 : Option Addr) (c0 : Nat) (l0 : List S39) (a1_0 a1_1 : ByteArray) (r : Bool) (w : World) (hr0 : Kd.C k39 w A0 l0.length l0) (hc0 : l0.length ≤ c0) (h : api_Key_39.f l0 a1_0 a1_1 = some r) :
    Calls Tryz.prog 39 #[.slice A0 l0.length c0, .agg #[.string a1_0, .string a1_1]] w fun e w' => e = .returned (.bool r) ∧ Below w.heap.size w w' := by
  unfold api_Key_39.f at h
  by_cases h1 : l0.length ≤ 4398046511104
  · rw [if_pos h1] at h
    obtain rfl := Option.some.inj h
    by_cases h0 : 0 < l0.length
    · obtain ⟨bk, o, rfl, hlt, hc⟩ := keys_at_ hr0 h0
      refine (AnyQ.slices_Contains Tryz.layContainsKey 2 Tryz.isAgg39 Tryz.sizeOf39 encKey_ (fun _ => rfl) keyEq_ keyEqAt_ bk o l0.length c0 l0 ⟨a1_0, a1_1⟩ w (Nat.le_refl _) (by omega) (fun j hj i v hi => ?_)).mono ?_
      · refine hc (j * 2 + i) v ?_ |> fun hh => by rw [← Nat.add_assoc] at hh; exact hh
        have hp : l0[j]? = some l0[j]! := by rw [List.getElem!_eq_getElem?_getD, List.getElem?_eq_getElem hj]; rfl
        obtain ⟨g0, g1⟩ := flatKeys_get l0 j _ hp
        have hi2 : i < 2 := (List.getElem?_eq_some_iff.1 hi).1
        rcases (by omega : i = 0 ∨ i = 1) with rfl | rfl
        · exact g0.trans hi
        · exact g1.trans hi
      · rintro e w' ⟨rfl, hb⟩
        exact ⟨by rw [List.take_length], hb⟩
    · have hl : l0 = [] := by cases l0 with | nil => rfl | cons x xs => simp at h0
      subst hl
      exact containsKeyZero_ A0 c0 a1_0 a1_1 w
  · rw [if_neg h1] at h; cases h
end Go.Proofs.YtphjhbppjakocaaGreatDoor.PTag
