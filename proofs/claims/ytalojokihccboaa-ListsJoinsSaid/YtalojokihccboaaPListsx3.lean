/- Printed by a program (the kit's print.py with changes of this session) out of Lean's own print of the program: functions of the program as plain Lean functions, and that each call comes to what they say; conditions: those that each theorem states. Not trusted: Lean checks it. -/
import Derived.Test.YtalojokihccboaaPListsx0
import Derived.Test.YtalojokihccboaaPListsx1
namespace Go.Proofs.Ytalojokihccboaa.PLists
open Go.RowKit Go.Proofs.YtalojokihccboaaW.PrintWords Go.Proofs.YtalojokihccboaaW.PrintLast Go.Proofs.YtalojokihccboaaW.PrintMore
attribute [local go_sem] max2_int min2_int max_two min_two max_three min_three max_four min_four   -- for this text's walks alone
set_option linter.unusedVariables false
set_option linter.unusedSimpArgs false

attribute [local go_sem] setCell_drewN_ cell_put_twice_
/-! ### runes_Fill: function 18, by hand: it writes into a strings.Builder of its own -/
def runes_Fill.l0 : Nat → ByteArray → List ByteArray → List UInt8 → Nat → Option (ByteArray × Int)
  | 0, _, _, _, _ => none
  | k + 1, p, l, out, i =>
    if i < p.size then
      (if bt p (i : Int) = 123 then
        (if p.size < i + 3 then some (⟨#[]⟩, 11) else
          (if bt p ((i + 2 : Nat) : Int) = 125 then
            (if bt p ((i + 1 : Nat) : Int) < 48 then some (⟨#[]⟩, 11) else
              (if 57 < bt p ((i + 1 : Nat) : Int) then some (⟨#[]⟩, 11) else
                (if (l.length : Int) ≤ bt p ((i + 1 : Nat) : Int) - 48 then some (⟨#[]⟩, 11) else
                  (if (1048576 : Int) - out.length < (rdOf ByteArray.empty l (bt p ((i + 1 : Nat) : Int) - 48)).size then some (⟨#[]⟩, 2)
                    else runes_Fill.l0 k p l (out ++ (rdOf ByteArray.empty l (bt p ((i + 1 : Nat) : Int) - 48)).data.toList) (i + 3)))))
          else some (⟨#[]⟩, 11)))
      else (if (1048576 : Int) - out.length < 1 then some (⟨#[]⟩, 2) else runes_Fill.l0 k p l (out ++ (p.extract i (i + 1)).data.toList) (i + 1)))
    else some (⟨out.toArray⟩, 0)
def runes_Fill.f (k : Nat) (a0 : ByteArray) (l1 : List ByteArray) : Option (ByteArray × Int) := if 65536 < a0.size then some (⟨#[]⟩, 2) else runes_Fill.l0 k a0 l1 [] 0
theorem runes_Fill.mono_l : ∀ k p l out i, LeO (runes_Fill.l0 k p l out i) (runes_Fill.l0 (k + 1) p l out i) := by
  intro k
  induction k with
  | zero => intro p l out i; exact LeO.none _
  | succ k ih =>
    intro p l out i
    simp only [runes_Fill.l0]
    repeat' (first | (with_reducible exact LeO.refl _) | exact ih _ _ _ _ | (with_reducible refine LeO.ite ?_ ?_))
theorem runes_Fill.mono : ∀ a0 l1 k, LeO (runes_Fill.f k a0 l1) (runes_Fill.f (k + 1) a0 l1) := by
  intro a0 l1 k
  unfold runes_Fill.f
  exact LeO.ite (LeO.refl _) (runes_Fill.mono_l _ _ _ _ _)

theorem piece_one (p : ByteArray) (i : Nat) (h : i < p.size) : p.extract i (i + 1) = ⟨#[p[i]]⟩ := by
  apply ByteArray.ext
  rw [ByteArray.data_extract]
  have hsz : i < p.data.size := h
  apply Array.ext
  · simp; omega
  · intro j h1 h2
    simp at h2
    subst h2
    simp
    rfl
theorem bt_nat (p : ByteArray) (i : Nat) (h : i < p.size) : bt p (i : Int) = ((p[i]).toNat : Int) := by
  have := bt_at p (i : Int) (by simpa using h)
  simp only [Int.toNat_natCast] at this
  exact this.symm
theorem piece_is (p : ByteArray) (i : Nat) (h : i < p.size) : ((p.extract i (i + 1)).toList == [123]) = decide (bt p (i : Int) = 123) := by
  rw [Lib.toList_data, piece_one p i h, bt_nat p i h, Bool.eq_iff_iff]
  simp
  constructor
  · intro e; rw [e]; rfl
  · intro e; apply UInt8.toNat_inj.1; rw [show UInt8.toNat 123 = 123 from rfl]; omega

theorem len_bytes (B b : Nat) (out : List UInt8) (w : World) (h : Lib.IsBuilder 46 5 B b (Lib.byteCells out) w) :
    Calls Try.prog 24 #[.pointer (some ⟨b, 0, none⟩)] w fun e w' => e = .returned (.int .i64 (out.length : Int)) ∧ w = w' :=
  (Try.Builder_Len B b _ w h).mono (by rintro e w' ⟨rfl, rfl⟩; exact ⟨by simp [Lib.byteCells], rfl⟩)

theorem built (B b : Nat) (out : List UInt8) (s : ByteArray) (w : World) (h : Lib.BuilderAt 46 5 B b (.pointer (some ⟨b, 0, none⟩)) (Lib.byteCells out ++ Lib.strCells s) w) : Lib.IsBuilder 46 5 B b (Lib.byteCells (out ++ s.data.toList)) w := by
  refine Or.inr ?_
  have e : Lib.byteCells (out ++ s.data.toList) = Lib.byteCells out ++ Lib.strCells s := by simp [Lib.byteCells, Lib.strCells]
  rw [e]; exact h

set_option maxHeartbeats 4000000 in
set_option maxRecDepth 100000 in
theorem runes_Fill.calls (k : Nat) (a0 : ByteArray) (A1 : Option Addr) (c1 : Nat) (l1 : List ByteArray) (r1 : ByteArray) (r2 : Int) (w : World) (hr1 : Kd.C Kd.string w A1 l1.length l1) (hc1 : l1.length ≤ c1) (h : runes_Fill.f k a0 l1 = some (r1, r2)) :
    Calls Try.prog 18 #[.string a0, .slice A1 l1.length c1] w fun e w' => e = .returned (.tuple #[.string r1, .int .i64 r2]) ∧ Below w.heap.size w w' := by
  unfold runes_Fill.f at h
  have HR := Aside0.mk hr1
  clear hr1
  by_cases hs : 65536 < a0.size
  · rw [if_pos hs] at h
    simp only [Option.some.injEq, Prod.mk.injEq] at h
    obtain ⟨rfl, rfl⟩ := h
    go_enter Try.func18, Try.ntmps18
    go_wp2
    go_ret2
    exact ⟨rfl, Below.refl _ _⟩
  · rw [if_neg hs] at h
    have HA0 := Aside0.mk h
    clear h
    have hs' : a0.size ≤ 65536 := by omega
    have hsb : decide (65536 < (a0.size : Int)) = false := by simp; omega
    go_enter Try.func18, Try.ntmps18
    go_wp2
    go_loopg [7] k (fun kq v7 w' => ∃ (i : Nat) (out : List UInt8), v7 = .int .i64 (i : Int) ∧ Aside0 (runes_Fill.l0 kq a0 l1 out i = some (r1, r2)) ∧ Aside0 (kq ≤ k) ∧ Aside0 (Lib.IsBuilder 46 5 w.heap.size w.heap.size (Lib.byteCells out) w') ∧ Aside0 (Below w.heap.size w w') ∧ Aside0 (out.length ≤ 1048576 ∧ i ≤ a0.size))
    case atStart => exact ⟨0, [], rfl, HA0, ⟨Nat.le_refl _⟩, ⟨Lib.fresh_isBuilder 46 5 w⟩, ⟨(Below.refl _ _).alloc (Nat.le_refl _) _⟩, ⟨by simp, by omega⟩⟩
    case round =>
      clear HA0
      obtain ⟨i, out, rfl, HA, HK, HI, HB, HO⟩ := hrel
      cases gk with
      | zero => exact absurd HA.out (by simp [runes_Fill.l0])
      | succ k1 =>
        have H := HA.out
        clear HA
        simp only [runes_Fill.l0] at H
        have hi := HO.out.2
        have ho := HO.out.1
        by_cases c1' : i < a0.size
        · rw [if_pos c1'] at H
          have t1 : decide ((i : Int) < (a0.size : Int)) = true := by simp; omega
          obtain ⟨pc, hpc⟩ : ∃ pc, pc = a0.extract i (i + 1) := ⟨_, rfl⟩
          have hsl : ∀ W : World, (Instr.slice 9 (.string a0) (some (.int .i64 (i : Int))) (some (.int .i64 ((i : Int) + 1))) none).run Try.prog W = .ok (.string pc) W := fun W => by
            rw [run_slice_string _ 9 a0 .i64 .i64 _ _ Try.underlying9 (by omega) (by omega) (by omega), hpc]
            rfl
          have hps : pc.size = 1 := by rw [hpc, piece_one a0 i c1']; rfl
          have hpd : (pc.toList == [123]) = decide (bt a0 (i : Int) = 123) := by rw [hpc]; exact piece_is a0 i c1'
          have HPC := Aside0.mk hpc
          clear hpc
          by_cases c2 : bt a0 (i : Int) = 123
          · rw [decide_eq_true c2] at hpd
            rw [if_pos c2] at H
            clear c2
            by_cases c3 : a0.size < i + 3
            · rw [if_pos c3] at H
              simp only [Option.some.injEq, Prod.mk.injEq] at H
              obtain ⟨rfl, rfl⟩ := H
              have t3 : decide ((a0.size : Int) < (i : Int) + 3) = true := by simp; omega
              go_wp2_with fail
              go_ret2
              exact ⟨rfl, HB.out⟩
            · rw [if_neg c3] at H
              have t3 : decide ((a0.size : Int) < (i : Int) + 3) = false := by simp; omega
              rw [bt_nat a0 (i + 2) (by omega), bt_nat a0 (i + 1) (by omega)] at H
              obtain ⟨v, hv⟩ : ∃ v : Nat, (a0[i + 2]'(by omega)).toNat = v := ⟨_, rfl⟩
              obtain ⟨u, hu⟩ : ∃ u : Nat, (a0[i + 1]'(by omega)).toNat = u := ⟨_, rfl⟩
              rw [hv, hu] at H
              have hxv : ∀ h : i + 2 < a0.size, (a0[i + 2]'h).toNat = v := fun _ => hv
              have hxu : ∀ h : i + 1 < a0.size, (a0[i + 1]'h).toNat = u := fun _ => hu
              clear hv hu
              by_cases c4 : (v : Int) = 125
              · rw [if_pos c4] at H
                have t4 : ((v : Int) != 125) = false := bne_eq_false_iff_eq.mpr c4
                clear c4
                by_cases c5 : (u : Int) < 48
                · rw [if_pos c5] at H
                  simp only [Option.some.injEq, Prod.mk.injEq] at H
                  obtain ⟨rfl, rfl⟩ := H
                  have t5 : decide ((u : Int) < 48) = true := decide_eq_true c5
                  clear c5
                  go_wp2_with fail
                  go_ret2
                  exact ⟨rfl, HB.out⟩
                · rw [if_neg c5] at H
                  by_cases c6 : 57 < (u : Int)
                  · rw [if_pos c6] at H
                    simp only [Option.some.injEq, Prod.mk.injEq] at H
                    obtain ⟨rfl, rfl⟩ := H
                    have t5 : decide ((u : Int) < 48) = false := decide_eq_false c5
                    have t6 : decide (57 < (u : Int)) = true := decide_eq_true c6
                    clear c5 c6
                    go_wp2_with fail
                    go_ret2
                    exact ⟨rfl, HB.out⟩
                  · rw [if_neg c6] at H
                    have g1 : 48 ≤ (u : Int) := by omega
                    have g2 : (u : Int) ≤ 57 := by omega
                    clear c5 c6
                    by_cases c7 : (l1.length : Int) ≤ (u : Int) - 48
                    · rw [if_pos c7] at H
                      simp only [Option.some.injEq, Prod.mk.injEq] at H
                      obtain ⟨rfl, rfl⟩ := H
                      have t7 : decide ((l1.length : Int) ≤ (u : Int) - 48) = true := decide_eq_true c7
                      go_wp2_with fail
                      go_ret2
                      exact ⟨rfl, HB.out⟩
                    · rw [if_neg c7] at H
                      have t7 : decide ((l1.length : Int) ≤ (u : Int) - 48) = false := decide_eq_false c7
                      obtain ⟨ad, rfl, hc⟩ := Kd.at_string (Kd.C_below HR.out HB.out) ((u : Int) - 48) (by omega) (by omega)
                      obtain ⟨it, hit⟩ : ∃ it, it = rdOf ByteArray.empty l1 ((u : Int) - 48) := ⟨_, rfl⟩
                      rw [← hit] at H hc
                      have HIT := Aside0.mk hit
                      clear hit
                      rw [show ((u : Int) - 48).toNat = u - 48 by omega] at hc
                      by_cases c8 : (1048576 : Int) - out.length < it.size
                      · rw [if_pos c8] at H
                        simp only [Option.some.injEq, Prod.mk.injEq] at H
                        obtain ⟨rfl, rfl⟩ := H
                        go_wp2_with (go_at_call 24; refine (len_bytes _ _ _ _ HI.out).mono ?_; rintro e w2 ⟨rfl, rfl⟩)
                        go_ret2
                        exact ⟨rfl, HB.out⟩
                      · rw [if_neg c8] at H
                        have Hh := Aside0.mk H
                        clear H
                        have hout : out.length + it.size ≤ 140737488355328 := by omega
                        have HO2 := Aside0.mk hout
                        clear hout
                        go_wp2_with (first | (go_at_call 24; refine (len_bytes _ _ _ _ HI.out).mono ?_; rintro e w2 ⟨rfl, rfl⟩) | (go_at_call 25; refine (Bd.writeString _ _ _ it _ HI.out (by simpa [Lib.byteCells] using HO2.out) HB.out.size).mono ?_; rintro e w2 ⟨rfl, hb, hbel⟩))
                        go_roundg k1
                        case measure => omega
                        case rel => exact ⟨i + 3, out ++ it.data.toList, by go_num, Hh, ⟨by have := HK.out; omega⟩, ⟨built _ _ _ _ _ hb⟩, ⟨HB.out.trans hbel⟩, ⟨by rw [List.length_append, data_length]; omega, by omega⟩⟩
              · rw [if_neg c4] at H
                simp only [Option.some.injEq, Prod.mk.injEq] at H
                obtain ⟨rfl, rfl⟩ := H
                have t4 : ((v : Int) != 125) = true := bne_iff_ne.mpr c4
                clear c4
                go_wp2_with fail
                go_ret2
                exact ⟨rfl, HB.out⟩
          · rw [decide_eq_false c2] at hpd
            rw [if_neg c2] at H
            clear c2
            by_cases c3 : (1048576 : Int) - out.length < 1
            · rw [if_pos c3] at H
              simp only [Option.some.injEq, Prod.mk.injEq] at H
              obtain ⟨rfl, rfl⟩ := H
              go_wp2_with (go_at_call 24; refine (len_bytes _ _ _ _ HI.out).mono ?_; rintro e w2 ⟨rfl, rfl⟩)
              go_ret2
              exact ⟨rfl, HB.out⟩
            · rw [if_neg c3] at H
              have Hh := Aside0.mk H
              clear H
              have hout : out.length + pc.size ≤ 140737488355328 := by omega
              have hps1 : (pc.size : Int) = 1 := by omega
              have HO2 := Aside0.mk hout
              clear hout
              go_wp2_with (first | (go_at_call 24; refine (len_bytes _ _ _ _ HI.out).mono ?_; rintro e w2 ⟨rfl, rfl⟩) | (go_at_call 25; refine (Bd.writeString _ _ _ pc _ HI.out (by simpa [Lib.byteCells] using HO2.out) HB.out.size).mono ?_; rintro e w2 ⟨rfl, hb, hbel⟩))
              go_roundg k1
              case measure => omega
              case rel => exact ⟨i + 1, out ++ pc.data.toList, by go_num, ⟨by rw [HPC.out]; exact Hh.out⟩, ⟨by have := HK.out; omega⟩, ⟨built _ _ _ _ _ hb⟩, ⟨HB.out.trans hbel⟩, ⟨by rw [List.length_append, data_length]; omega, by omega⟩⟩
        · rw [if_neg c1'] at H
          simp only [Option.some.injEq, Prod.mk.injEq] at H
          obtain ⟨rfl, rfl⟩ := H
          go_wp2_with (go_at_call 26; refine (Try.Builder_String_any _ _ out _ HI.out (HB.out.size)).mono ?_; rintro e w2 ⟨rfl, hb2⟩)
          go_ret2
          exact ⟨rfl, HB.out.trans hb2⟩


def strings_Cut.f (a0 a1 : ByteArray) : Option (ByteArray × ByteArray × Bool) := if a0.size < 4294967281 then some (⟨(Lib.cut a0.data.toList a1.data.toList).1.toArray⟩, ⟨(Lib.cut a0.data.toList a1.data.toList).2.1.toArray⟩, (Lib.cut a0.data.toList a1.data.toList).2.2) else none
theorem strings_Cut.calls (a0 a1 : ByteArray) (r1 r2 : ByteArray) (r3 : Bool) (w : World) (hT : Tbl w) (h : strings_Cut.f a0 a1 = some (r1, r2, r3)) :
    Calls Try.prog 27 #[.string a0, .string a1] w fun e w' => e = .returned (.tuple #[.string r1, .string r2, .bool r3]) ∧ Drawn0 w w' := by
  unfold strings_Cut.f at h
  obtain ⟨m, hm⟩ := hT
  by_cases hs : a0.size < 4294967281
  · rw [if_pos hs] at h
    simp only [Option.some.injEq, Prod.mk.injEq] at h
    obtain ⟨rfl, rfl, rfl⟩ := h
    exact (Try.strings_Cut a0 a1 m w hs hm).mono (by rintro e w' ⟨rfl, n, rfl⟩; exact ⟨rfl, ⟨n, rfl⟩⟩)
  · rw [if_neg hs] at h; cases h

/-! ### lists_cut: function 19 -/
def lists_cut.f (a0 : ByteArray) : Option (ByteArray × ByteArray × ByteArray) := (strings_Cut.f a0 (⟨#[123, 48, 125]⟩ : ByteArray)).bind fun bt110 => ((strings_Cut.f bt110.2.1 (⟨#[123, 49, 125]⟩ : ByteArray)).bind fun bt113 => (some (bt110.1, bt113.1, bt113.2.1)))
set_option maxHeartbeats 8000000 in
set_option maxRecDepth 100000 in
theorem lists_cut.calls (a0 : ByteArray) (r1 : ByteArray) (r2 : ByteArray) (r3 : ByteArray) (w : World) (hT : Tbl w) (h : lists_cut.f a0 = some (r1, r2, r3)) :
    Calls Try.prog 19 #[.string a0] w fun e w' => e = .returned (.tuple #[.string r1, .string r2, .string r3]) ∧ Drawn0 w w' := by
  have HT := Aside0.mk hT
  clear hT
  have H : ((strings_Cut.f a0 (⟨#[123, 48, 125]⟩ : ByteArray)).bind fun bt110 => ((strings_Cut.f bt110.2.1 (⟨#[123, 49, 125]⟩ : ByteArray)).bind fun bt113 => (some (bt110.1, bt113.1, bt113.2.1)))) = some (r1, r2, r3) := h
  clear h
  replace H := Option.bind_eq_some_iff.mp H
  obtain ⟨⟨t110, t111, t112⟩, A20, H⟩ := H
  replace H : ((strings_Cut.f t111 (⟨#[123, 49, 125]⟩ : ByteArray)).bind fun bt113 => (some (t110, bt113.1, bt113.2.1))) = some (r1, r2, r3) := H
  have A2 := Aside0.mk A20
  clear A20
  replace H := Option.bind_eq_some_iff.mp H
  obtain ⟨⟨t113, t114, t115⟩, A30, H⟩ := H
  replace H : (some (t110, t113, t114)) = some (r1, r2, r3) := H
  have A3 := Aside0.mk A30
  clear A30
  simp only [Option.some.injEq, Prod.mk.injEq] at H
  obtain ⟨rfl, rfl, rfl⟩ := H
  go_enter Try.func19, Try.ntmps19
  go_wp2_with (first | ((with_reducible refine gate_callee (f := 27) rfl ?_); refine goesL_ (some 9) rfl rfl Try.func27 (by kernel_rfl) rfl #[.string a0, .string (⟨#[123, 48, 125]⟩ : ByteArray)] rfl (by (try simp only [List.map_toArray, List.map_cons, List.map_nil]); first | done | rfl | (simp only [List.length_drop, List.length_take]; rfl)) ?_; (with_reducible refine (strings_Cut.calls a0 (⟨#[123, 48, 125]⟩ : ByteArray) t110 t111 t112 _ (by (with_reducible repeat (first | refine Tbl.drewN ?_ _ | refine Tbl.drew ?_)); exact HT.out) A2.out).mono ?_); rintro e w' ⟨rfl, ⟨nd, rfl⟩⟩; refine ⟨_, rfl, ?_⟩) | ((with_reducible refine gate_callee (f := 27) rfl ?_); refine goesL_ (some 15) rfl rfl Try.func27 (by kernel_rfl) rfl #[.string t111, .string (⟨#[123, 49, 125]⟩ : ByteArray)] rfl (by (try simp only [List.map_toArray, List.map_cons, List.map_nil]); first | done | rfl | (simp only [List.length_drop, List.length_take]; rfl)) ?_; (with_reducible refine (strings_Cut.calls t111 (⟨#[123, 49, 125]⟩ : ByteArray) t113 t114 t115 _ (by (with_reducible repeat (first | refine Tbl.drewN ?_ _ | refine Tbl.drew ?_)); exact HT.out) A3.out).mono ?_); rintro e w' ⟨rfl, ⟨nd, rfl⟩⟩; refine ⟨_, rfl, ?_⟩))
  go_ret3
  exact ⟨by first | rfl | (simp; done) | (simp [*]; done), by repeat (first | exact Drawn0.refl _ | apply Drawn0.step)⟩

/-! ### strings_Join: function 28, by hand, over the shelf's contract -/
def strings_Join.f (l0 : List ByteArray) (a1 : ByteArray) : Option ByteArray := if l0.length ≤ 140737488355328 then (if (Lib.join (l0.map (·.data.toList)) a1.data.toList).length ≤ 140737488355328 then some ⟨(Lib.join (l0.map (·.data.toList)) a1.data.toList).toArray⟩ else none) else none
theorem strings_Join.calls (A0 : Option Addr) (c0 : Nat) (l0 : List ByteArray) (a1 : ByteArray) (r : ByteArray) (w : World) (hr0 : Kd.C Kd.string w A0 l0.length l0) (hc0 : l0.length ≤ c0) (h : strings_Join.f l0 a1 = some r) :
    Calls Try.prog 28 #[.slice A0 l0.length c0, .string a1] w fun e w' => e = .returned (.string r) ∧ Below w.heap.size w w' := by
  unfold strings_Join.f at h
  by_cases h1 : l0.length ≤ 140737488355328
  · rw [if_pos h1] at h
    by_cases h2 : (Lib.join (l0.map (·.data.toList)) a1.data.toList).length ≤ 140737488355328
    · rw [if_pos h2] at h
      obtain rfl := Option.some.inj h
      clear h
      by_cases h0 : 0 < l0.length
      · have hR := Kd.reads_of_C (enc := Value.string) (d := ByteArray.empty) (h1 := fun _ => rfl) hr0
        obtain ⟨ad, rfl, hc⟩ := hR.2.2 h0
        have hc0' := hc 0 h0
        have hsp : ad.spot = none := by
          cases hs : ad.spot with
          | none => rfl
          | some z =>
            exfalso
            have : ad.add 0 = ad := rfl
            rw [this] at hc0'
            unfold World.cell? at hc0'
            rw [hs] at hc0'
            split at hc0' <;> simp at hc0'
        obtain ⟨bk, o, sp⟩ := ad
        obtain rfl : sp = none := hsp
        have hlt : bk < w.heap.size := by
          have := World.block_lt_of_cell? w _ hc0'
          simpa [Addr.add] using this
        refine (Try.strings_Join bk o c0 l0 a1 w (fun j x hj => ?_) hlt h1 hc0 h2).mono ?_
        · have hjl : j < l0.length := (List.getElem?_eq_some_iff.1 hj).1
          have hh := hc j hjl
          have e1 : (⟨bk, o, none⟩ : Addr).add j = ⟨bk, o + j, none⟩ := by
            unfold Addr.add; by_cases hz : j = 0 <;> simp [hz]
          rw [e1, List.getD_eq_getElem?_getD, hj] at hh
          exact hh
        · rintro e w' ⟨rfl, hb⟩; exact ⟨rfl, hb⟩
      · have hl : l0 = [] := by cases l0 with | nil => rfl | cons x xs => simp at h0
        subst hl
        refine (Try.strings_Join_none A0 c0 a1 w).mono ?_
        rintro e w' ⟨rfl, rfl⟩
        exact ⟨rfl, Below.refl _ _⟩
    · rw [if_neg h2] at h; cases h
  · rw [if_neg h1] at h; cases h

end Go.Proofs.Ytalojokihccboaa.PLists
