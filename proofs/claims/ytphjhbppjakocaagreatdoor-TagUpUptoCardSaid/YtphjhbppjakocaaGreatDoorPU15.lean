/- Printed by a program (the kit's print.py with changes of this session) out of Lean's own print of the program: functions of the program as plain Lean functions, and that each call comes to what they say; conditions: those that each theorem states. Not trusted: Lean checks it. -/
import Derived.Test.YtphjhbppjakocaaGreatDoorPU0
import Derived.Test.YtphjhbppjakocaaGreatDoorBrief
import Derived.Test.YtphjhbppjakocaaGreatDoorPU14
namespace Go.Proofs.YtphjhbppjakocaaGreatDoor.PTag
open Go.RowKit Go.Proofs.YtphjhbppjakocaaGreatDoorW.PrintWords Go.Proofs.YtphjhbppjakocaaGreatDoorW.PrintLast Go.Proofs.YtphjhbppjakocaaGreatDoorW.PrintMore
attribute [local go_sem] max2_int min2_int max_two min_two max_three min_three max_four min_four
set_option linter.unusedVariables false
set_option linter.unusedSimpArgs false
attribute [local go_sem] setCell_drewN_ cell_put_twice_ gtr_less_
mutual
def tag_text.j0 : Nat → List ByteArray → ByteArray → ByteArray → ByteArray → List ByteArray → List (S39) → Option (ByteArray)
 | 0, _, _, _, _, _, _ => none
 | k + 1, x3, x196000, x196001, x196002, x196003, x196004 => if x196001.toList = ([] : List UInt8) then (tag_text.j1 k x3 x196000 x196001 x196002 x196003 x196004) else (if x3.length < 8796093022208 then (tag_text.j1 k (x3 ++ [x196001]) x196000 x196001 x196002 x196003 x196004) else (none))
def tag_text.j1 : Nat → List ByteArray → ByteArray → ByteArray → ByteArray → List ByteArray → List (S39) → Option (ByteArray)
 | 0, _, _, _, _, _, _ => none
 | k + 1, x3, x196000, x196001, x196002, x196003, x196004 => if x196002.toList = ([] : List UInt8) then (tag_text.j2 k x3 x196000 x196001 x196002 x196003 x196004) else (if x3.length < 8796093022208 then (tag_text.j2 k (x3 ++ [x196002]) x196000 x196001 x196002 x196003 x196004) else (none))
def tag_text.j2 : Nat → List ByteArray → ByteArray → ByteArray → ByteArray → List ByteArray → List (S39) → Option (ByteArray)
 | 0, _, _, _, _, _, _ => none
 | k + 1, x3, x196000, x196001, x196002, x196003, x196004 => if x3.length + x196003.length < 8796093022208 then ((some (x3 ++ x196003 : List ByteArray)).bind fun y206 => (if (x196004.length : Int) > 0 then (if y206.length < 8796093022208 then (tag_text.j3 k (y206 ++ [(⟨#[117]⟩ : ByteArray)]) x196000 x196001 x196002 x196003 x196004) else (none)) else (tag_text.j3 k y206 x196000 x196001 x196002 x196003 x196004))) else (none)
def tag_text.j3 : Nat → List ByteArray → ByteArray → ByteArray → ByteArray → List ByteArray → List (S39) → Option (ByteArray)
 | 0, _, _, _, _, _, _ => none
 | k + 1, x3, x196000, x196001, x196002, x196003, x196004 => tag_text.l0 k x3 x196004 (x196004.length : Int) 0
def tag_text.l0 : Nat → List ByteArray → List (S39) → Int → Int → Option (ByteArray)
 | 0, _, _, _, _ => none
 | k + 1, x3, x42, x43, x44 => if x44 < x43 then (if 0 ≤ x44 then (if x44 < (x42.length : Int) then (if x3.length < 8796093022208 then ((some (x3 ++ [(rd_T39 x42 x44).f0] : List ByteArray)).bind fun y214 => (if ((rd_T39 x42 x44).f1).toList = ([] : List UInt8) then (tag_text.l0 k y214 x42 x43 (wrap64 (x44 + 1))) else (if y214.length < 8796093022208 then (tag_text.l0 k (y214 ++ [(rd_T39 x42 x44).f1]) x42 x43 (wrap64 (x44 + 1))) else (none)))) else (none)) else (none)) else (none)) else ((strings_Join.f x3 (⟨#[45]⟩ : ByteArray)).bind fun t220 => (some t220))
end
def tag_text.f (k : Nat) (a0_0 : ByteArray) (a0_1 : ByteArray) (a0_2 : ByteArray) (l0_3 : List ByteArray) (l0_4 : List (S39)) : Option (ByteArray) := (some (([a0_0] : List ByteArray) : List ByteArray)).bind fun y196 => (if a0_0.toList = ([] : List UInt8) then (if 0 < (y196.length : Int) then (tag_text.j0 k (y196.set (0 : Int).toNat (⟨#[117, 110, 100]⟩ : ByteArray)) a0_0 a0_1 a0_2 l0_3 l0_4) else (none)) else (tag_text.j0 k y196 a0_0 a0_1 a0_2 l0_3 l0_4))
theorem tag_text.mono_l : ∀ k, (∀ y0 y1 y2 y3 y4 y5, LeO (tag_text.j0 k y0 y1 y2 y3 y4 y5) (tag_text.j0 (k + 1) y0 y1 y2 y3 y4 y5)) ∧ (∀ y0 y1 y2 y3 y4 y5, LeO (tag_text.j1 k y0 y1 y2 y3 y4 y5) (tag_text.j1 (k + 1) y0 y1 y2 y3 y4 y5)) ∧ (∀ y0 y1 y2 y3 y4 y5, LeO (tag_text.j2 k y0 y1 y2 y3 y4 y5) (tag_text.j2 (k + 1) y0 y1 y2 y3 y4 y5)) ∧ (∀ y0 y1 y2 y3 y4 y5, LeO (tag_text.j3 k y0 y1 y2 y3 y4 y5) (tag_text.j3 (k + 1) y0 y1 y2 y3 y4 y5)) ∧ (∀ y0 y1 y2 y3, LeO (tag_text.l0 k y0 y1 y2 y3) (tag_text.l0 (k + 1) y0 y1 y2 y3))
 | 0 => ⟨fun _ _ _ _ _ _ r h => by simp [tag_text.j0] at h, fun _ _ _ _ _ _ r h => by simp [tag_text.j1] at h, fun _ _ _ _ _ _ r h => by simp [tag_text.j2] at h, fun _ _ _ _ _ _ r h => by simp [tag_text.j3] at h, fun _ _ _ _ r h => by simp [tag_text.l0] at h⟩
 | k + 1 => by
  obtain ⟨ih0, ih1, ih2, ih3, ih4⟩ := tag_text.mono_l k
  refine ⟨?_, ?_, ?_, ?_, ?_⟩
  intro y0 y1 y2 y3 y4 y5; unfold tag_text.j0; rotate_left
  intro y0 y1 y2 y3 y4 y5; unfold tag_text.j1; rotate_left
  intro y0 y1 y2 y3 y4 y5; unfold tag_text.j2; rotate_left
  intro y0 y1 y2 y3 y4 y5; unfold tag_text.j3; rotate_left
  intro y0 y1 y2 y3; unfold tag_text.l0; rotate_left
  all_goals repeat' first
   | (with_reducible exact ih0 _ _ _ _ _ _)
   | (with_reducible exact ih1 _ _ _ _ _ _)
   | (with_reducible exact ih2 _ _ _ _ _ _)
   | (with_reducible exact ih3 _ _ _ _ _ _)
   | (with_reducible exact ih4 _ _ _ _)
   | (with_reducible exact LeO.refl _)
   | (with_reducible exact LeO.none _)
   | (with_reducible refine LeO.ite ?_ ?_)
   | (with_reducible refine LeO.bind ?_ (fun _ => ?_))
   | exact ih0 _ _ _ _ _ _
   | exact ih1 _ _ _ _ _ _
   | exact ih2 _ _ _ _ _ _
   | exact ih3 _ _ _ _ _ _
   | exact ih4 _ _ _ _
   | exact LeO.none _
   | refine LeO.ite ?_ ?_
   | refine LeO.bind ?_ (fun _ => ?_)
theorem tag_text.mono : ∀ a0 a1 a2 a3 a4 k, LeO (tag_text.f k a0 a1 a2 a3 a4) (tag_text.f (k + 1) a0 a1 a2 a3 a4) := by
 intro a0 a1 a2 a3 a4 k
 obtain ⟨ih0, ih1, ih2, ih3, ih4⟩ := tag_text.mono_l k
 unfold tag_text.f
 repeat' first
   | (with_reducible exact ih0 _ _ _ _ _ _)
   | (with_reducible exact ih1 _ _ _ _ _ _)
   | (with_reducible exact ih2 _ _ _ _ _ _)
   | (with_reducible exact ih3 _ _ _ _ _ _)
   | (with_reducible exact ih4 _ _ _ _)
   | (with_reducible exact LeO.refl _)
   | (with_reducible exact LeO.none _)
   | (with_reducible refine LeO.ite ?_ ?_)
   | (with_reducible refine LeO.bind ?_ (fun _ => ?_))
   | exact ih0 _ _ _ _ _ _
   | exact ih1 _ _ _ _ _ _
   | exact ih2 _ _ _ _ _ _
   | exact ih3 _ _ _ _ _ _
   | exact ih4 _ _ _ _
   | exact LeO.none _
   | refine LeO.ite ?_ ?_
   | refine LeO.bind ?_ (fun _ => ?_)
set_option maxHeartbeats 8000000 in
set_option maxRecDepth 100000 in
theorem tag_text.calls (k : Nat) (a0_0 : ByteArray) (a0_1 : ByteArray) (a0_2 : ByteArray) (A0_3 : Option Addr) (c0_3 : Nat) (l0_3 : List ByteArray) (A0_4 : Option Addr) (c0_4 : Nat) (l0_4 : List (S39)) (r : ByteArray) (w : World) (hr0_3 : Kd.C Kd.string w A0_3 l0_3.length l0_3) (hc0_3 : l0_3.length ≤ c0_3) (hr0_4 : Kd.C k39 w A0_4 l0_4.length l0_4) (hc0_4 : l0_4.length ≤ c0_4) (h : tag_text.f k a0_0 a0_1 a0_2 l0_3 l0_4 = some r) :
  Calls Tryz.prog 40 #[.agg #[.string a0_0, .string a0_1, .string a0_2, .slice A0_3 l0_3.length c0_3, .slice A0_4 l0_4.length c0_4]] w fun e w' => e = .returned (.string r) ∧ Below w.heap.size w w' := by
 have hu25 := Tryz.underlying25
 have hu39 := Tryz.underlying39
 have HR0_3 := Aside0.mk hr0_3
 have HC0_3 := Aside0.mk hc0_3
 clear hr0_3 hc0_3
 have HR0_4 := Aside0.mk hr0_4
 have HC0_4 := Aside0.mk hc0_4
 clear hr0_4 hc0_4
 have HB := Aside0.mk (Below.refl w.heap.size w)
 have H : ((some (([a0_0] : List ByteArray) : List ByteArray)).bind fun y196 => (if a0_0.toList = ([] : List UInt8) then (if 0 < (y196.length : Int) then (tag_text.j0 k (y196.set (0 : Int).toNat (⟨#[117, 110, 100]⟩ : ByteArray)) a0_0 a0_1 a0_2 l0_3 l0_4) else (none)) else (tag_text.j0 k y196 a0_0 a0_1 a0_2 l0_3 l0_4))) = some r := h
 clear h
 obtain ⟨y196, hy196⟩ : ∃ y_ : List ByteArray, y_ = (([a0_0] : List ByteArray)) := ⟨_, rfl⟩
 replace H : (if a0_0.toList = ([] : List UInt8) then (if 0 < (y196.length : Int) then (tag_text.j0 k (y196.set (0 : Int).toNat (⟨#[117, 110, 100]⟩ : ByteArray)) a0_0 a0_1 a0_2 l0_3 l0_4) else (none)) else (tag_text.j0 k y196 a0_0 a0_1 a0_2 l0_3 l0_4)) = some r := by first | (rw [hy196]; with_reducible exact H) | (have H2_ := (Option.bind_some _ _).symm.trans H; rw [hy196]; with_reducible exact H2_) | (have H2_ := (Option.bind_some _ _).symm.trans H; with_reducible exact H2_) | with_reducible exact H | (rw [hy196]; exact H) | exact H
 have Ny196 := Aside0.mk hy196
 clear hy196
 have HC2 := Aside0.mk H
 clear H
 go_enter Tryz.func40, Tryz.ntmps40
 go_upto_if 11 with (first | (refine bx_ 1 #[.string a0_0, .string a0_1, .string a0_2, .slice A0_3 l0_3.length c0_3, .slice A0_4 l0_4.length c0_4] 25 ?_; intro gb195 hg w3 hbox hb; have BK195 := Aside0.mk (hbox); have GW195 := Aside0.mk ((by rw [hg]; exact hz_ : w.heap.size ≤ gb195)); have GE195 := Aside0.mk ((by rw [hg]; exact hz_ : w.heap.size ≤ gb195)); replace HB := Aside0.mk (below_step hb_ hb); clear hb hbox hg; obtain ⟨hcz4_0, hcz4_1, hcz4_2, hcz4_3, hcz4_4, hfz4_0, hfz4_1, hfz4_2, hfz4_3, hfz4_4⟩ := c5_ BK195) | ((with_reducible refine gate_dst (N := 8) rfl ?_); refine Kd.R_lit Kd.string _ 9 ?hg (N := 8) ?hd (xs := ([a0_0] : List ByteArray)) (inner := [.string a0_0]) (ok := fun _ => True) (okp := fun _ => True) ?hr ?hp (fun _ hk => hk) trivial (Below.refl _ _) (Nat.le_refl _) (by simp) ?_; (case hd => rfl); (case hg => rfl); (case hr => first | (go_simp; done) | (go_simp; rfl)); (case hp => exact (Reps.one (show Kd.M Kd.string _ _ _ a0_0 [.string a0_0] from rfl) (Reps.none _ _))); intro v197 w5 ho6 hb hg_ hnew_; clear hg_ hnew_; (first | rw [← Ny196.out] at ho6 | (simp only [Int.reduceToNat] at ho6; rw [← Ny196.out] at ho6)); have HO198 := Aside0.mk (Kd.R_lower ho6 (below_size (by repeat (first | (with_reducible first | exact HB.out | apply below_alloc | apply pw_below_drewN | apply below_drew1 | refine below_set ?_ GE195.out) | exact HB.out)))); replace BK195 := Aside0.mk (blk_below (g := gb195) (o := .cells #[.string a0_0, .string a0_1, .string a0_2, .slice A0_3 l0_3.length c0_3, .slice A0_4 l0_4.length c0_4] 25 (0, 0)) (bk_ BK195) hb); replace HB := Aside0.mk (below_step (by repeat (first | (with_reducible first | exact HB.out | apply below_alloc | apply pw_below_drewN | apply below_drew1 | refine below_set ?_ GE195.out) | exact HB.out)) hb); clear hb ho6; obtain ⟨hcz7_0, hcz7_1, hcz7_2, hcz7_3, hcz7_4, hfz7_0, hfz7_1, hfz7_2, hfz7_3, hfz7_4⟩ := c5_ BK195))
 (try simp only [Act.put, List.setIfInBounds_toArray, List.set_cons_zero, List.set_cons_succ])
 go_cut [] (fun wc => ∃ (kq : Nat) (x3_1 : List ByteArray), Aside0 (tag_text.j0 kq x3_1 a0_0 a0_1 a0_2 l0_3 l0_4 = some r) ∧ Aside0 (kq ≤ k) ∧ Aside0 (Kd.R Kd.string 9 wc w.heap.size (fun _ => True) v197 x3_1) ∧ Aside0 (wc.heap[gb195]? = some (.cells #[.string a0_0, .string a0_1, .string a0_2, (.slice A0_3 l0_3.length c0_3), (.slice A0_4 l0_4.length c0_4)] 25 (0, 0))) ∧ Aside0 (Below w.heap.size w wc))
 case first =>
  have H := HC2.out
  clear HC2
  by_cases c8 : a0_0.toList = ([] : List UInt8)
  ·rw [if_pos c8] at H
   have c8b0 : (a0_0.toList == ([] : List UInt8)) = true := beq_iff_eq.mpr c8
   have c8b1 : (a0_0.toList != ([] : List UInt8)) = false := bne_eq_false_iff_eq.mpr c8
   have c8b2 : a0_0.toList.isEmpty = true := List.isEmpty_iff.mpr c8
   clear c8
   (first | rw [c8b0] | rw [c8b1] | rw [c8b2] | (simp only [i64_w, i32_w]; rw [c8b0]) | skip)
   (try simp only [Bool.not_true, Bool.not_false])
   by_cases c9 : 0 < (y196.length : Int)
   ·rw [if_pos c9] at H
    have c9b0 : decide (0 < (y196.length : Int)) = true := decide_eq_true c9
    have c9b1 : decide (0 < y196.length) = true := decide_eq_true (by omega)
    clear c9
    obtain ⟨y199, hy199⟩ : ∃ y_ : List ByteArray, y_ = (y196.set (0 : Int).toNat (⟨#[117, 110, 100]⟩ : ByteArray)) := ⟨_, rfl⟩
    replace H : (tag_text.j0 k y199 a0_0 a0_1 a0_2 l0_3 l0_4) = some r := by first | (rw [hy199]; with_reducible exact H) | (have H2_ := (Option.bind_some _ _).symm.trans H; rw [hy199]; with_reducible exact H2_) | (have H2_ := (Option.bind_some _ _).symm.trans H; with_reducible exact H2_) | with_reducible exact H | (rw [hy199]; exact H) | exact H
    have Ny199 := Aside0.mk hy199
    clear hy199
    have H' := Aside0.mk H
    clear H
    have p10 : 0 ≤ (0 : Int) := (by omega)
    have q10 : (0 : Int) < ((y196.length : Int) : Int) := of_decide_eq_true (by first | (with_reducible assumption) | assumption)
    have qi10 : (0 < y196.length) = True := eq_true (by omega)
    obtain ⟨go10, co10, eo10, gb10, gl10, cl10, HG10⟩ := Kd.R_form HO198.out (by omega)
    (first | cases eo10 | (injection eo10 with ea_ en_ ec_; (first | subst ea_ | (injection ea_ with ea_; subst ea_)); subst ec_; clear en_))
    have GB10 := Aside0.mk gb10
    have GG10 := Aside0.mk HG10
    clear gb10 gl10 HG10
    obtain ⟨hx10_0, hf10_0⟩ := Kd.R_celln (⟨#[]⟩ : ByteArray) HO198.out (0 : Int) p10 q10
    (try rw [show ((0 : Int)).toNat = 0 from rfl] at hx10_0)
    (try simp only [Nat.reduceMul, Nat.zero_mul, Nat.zero_add, Nat.reduceAdd] at hx10_0)
    (try rw [show ((0 : Int)).toNat = 0 from rfl] at hf10_0)
    (try simp only [Nat.reduceMul, Nat.zero_mul, Nat.zero_add, Nat.reduceAdd] at hf10_0)
    replace p10 := eq_true p10
    replace q10 := eq_true q10
    have HP11 := Kd.R_putg HO198.out (0 : Int) (⟨#[117, 110, 100]⟩ : ByteArray)
    go_wp2_with (first | ((with_reducible refine gate_store (t := 9) (p := 13) rfl ?_); refine store_event (t := 9) (p := 13) (v := ?vo_w12) (w1 := (w5.setCell ⟨go10, (0 : Int).toNat, none⟩ (.string (⟨#[117, 110, 100]⟩ : ByteArray)))) ?hg ?ho ?hn ?hr ?_; (case ho => rfl); (case hg => rfl); (case hn => rfl); (case hr => first | (go_simp; done) | (go_simp; rfl)); intro w12 hw; have hg : w5.grownBy w12 (some go10) := (by rw [hw]; exact HP11.2); have hp_ : Kd.R Kd.string 9 w12 w.heap.size (fun _ => True) (.slice (some ⟨go10, 0, none⟩) y196.length co10) y199 := (by rw [hw, Ny199.out]; exact HP11.1); clear HP11; replace BK195 := Aside0.mk (blk_grown (g := gb195) (o := .cells #[.string a0_0, .string a0_1, .string a0_2, .slice A0_3 l0_3.length c0_3, .slice A0_4 l0_4.length c0_4] 25 (0, 0)) (bk_ BK195) hg (Kd.R_ne HO198.out BK195.out (by decide))); replace HO198 := Aside0.mk (hp_); replace HB := Aside0.mk ((by rw [hw]; exact below_set (HB.out) GB10.out : Below w.heap.size w w12)); clear hg hw hp_))
    go_meet
    case rel => exact ⟨_, (y199), H', ⟨by first | omega | exact Nat.le_refl _⟩, ⟨by (with_reducible repeat (first | apply Kd.R_alloc | apply Kd.R_drewN | apply Kd.R_drew)); exact HO198.out⟩, ⟨by (with_reducible repeat (first | refine blk_drewN ?_ _ | refine blk_drew ?_ | refine blk_alloc ?_ _)); exact BK195.out⟩, ⟨by repeat (first | (with_reducible first | exact HB.out | apply below_alloc | apply pw_below_drewN | apply below_drew1 | refine below_set ?_ GE195.out) | exact HB.out)⟩⟩
   ·rw [if_neg c9] at H
    exact absurd H (by simp)
  ·rw [if_neg c8] at H
   have c8b0 : (a0_0.toList == ([] : List UInt8)) = false := beq_eq_false_iff_ne.mpr c8
   have c8b1 : (a0_0.toList != ([] : List UInt8)) = true := bne_iff_ne.mpr c8
   have c8b2 : a0_0.toList.isEmpty = false := List.isEmpty_eq_false_iff.mpr c8
   (first | rw [c8b0] | rw [c8b1] | rw [c8b2] | (simp only [i64_w, i32_w]; rw [c8b0]) | skip)
   (try simp only [Bool.not_true, Bool.not_false])
   have H' := Aside0.mk H
   clear H
   go_wp2
   go_meet
   case rel => exact ⟨_, (y196), H', ⟨by first | omega | exact Nat.le_refl _⟩, ⟨by (with_reducible repeat (first | apply Kd.R_alloc | apply Kd.R_drewN | apply Kd.R_drew)); exact HO198.out⟩, ⟨by (with_reducible repeat (first | refine blk_drewN ?_ _ | refine blk_drew ?_ | refine blk_alloc ?_ _)); exact BK195.out⟩, ⟨by repeat (first | (with_reducible first | exact HB.out | apply below_alloc | apply pw_below_drewN | apply below_drew1 | refine below_set ?_ GE195.out) | exact HB.out)⟩⟩
 case rest =>
  clear HC2
  clear hcz4_0 hcz4_1 hcz4_2 hcz4_3 hcz4_4 hcz7_0 hcz7_1 hcz7_2 hcz7_3 hcz7_4 hfz4_0 hfz4_1 hfz4_2 hfz4_3 hfz4_4 hfz7_0 hfz7_1 hfz7_2 hfz7_3 hfz7_4
  obtain ⟨kq, x3_1, HA, HJ1, HO_3, BK195, HB⟩ := hcut
  cases kq with
  | zero => exact absurd HA.out (by simp [tag_text.j0])
  | succ kj1 =>
   have H := HA.out
   clear HA
   simp only [tag_text.j0] at H
   have HC13 := Aside0.mk H
   clear H
   obtain ⟨hcz14_0, hcz14_1, hcz14_2, hcz14_3, hcz14_4, hfz14_0, hfz14_1, hfz14_2, hfz14_3, hfz14_4⟩ := c5_ BK195
   go_upto_if 16 with (fail)
   go_cut [3] (fun v3 wc => ∃ (kq : Nat) (x3_12 : List ByteArray), Aside0 (tag_text.j1 kq x3_12 a0_0 a0_1 a0_2 l0_3 l0_4 = some r) ∧ Aside0 (kq ≤ kj1) ∧ Aside0 (Kd.R Kd.string 9 wc w.heap.size (fun _ => True) v3 x3_12) ∧ Aside0 (wc.heap[gb195]? = some (.cells #[.string a0_0, .string a0_1, .string a0_2, (.slice A0_3 l0_3.length c0_3), (.slice A0_4 l0_4.length c0_4)] 25 (0, 0))) ∧ Aside0 (Below w.heap.size w wc))
   case first =>
    have H := HC13.out
    clear HC13
    by_cases c15 : a0_1.toList = ([] : List UInt8)
    ·rw [if_pos c15] at H
     have c15b0 : (a0_1.toList == ([] : List UInt8)) = true := beq_iff_eq.mpr c15
     have c15b1 : (a0_1.toList != ([] : List UInt8)) = false := bne_eq_false_iff_eq.mpr c15
     have c15b2 : a0_1.toList.isEmpty = true := List.isEmpty_iff.mpr c15
     clear c15
     (first | rw [c15b0] | rw [c15b1] | rw [c15b2] | (simp only [i64_w, i32_w]; rw [c15b0]) | skip)
     (try simp only [Bool.not_true, Bool.not_false])
     have H' := Aside0.mk H
     clear H
     go_wp2
     go_meet
     case rel => exact ⟨_, (x3_1), H', ⟨by have := HJ1.out; first | omega | exact Nat.le_refl _⟩, ⟨by (with_reducible repeat (first | apply Kd.R_alloc | apply Kd.R_drewN | apply Kd.R_drew)); exact HO_3.out⟩, ⟨by (with_reducible repeat (first | refine blk_drewN ?_ _ | refine blk_drew ?_ | refine blk_alloc ?_ _)); exact BK195.out⟩, ⟨by repeat (first | (with_reducible first | exact HB.out | apply below_alloc | apply pw_below_drewN | apply below_drew1 | refine below_set ?_ GE195.out) | exact HB.out)⟩⟩
    ·rw [if_neg c15] at H
     have c15b0 : (a0_1.toList == ([] : List UInt8)) = false := beq_eq_false_iff_ne.mpr c15
     have c15b1 : (a0_1.toList != ([] : List UInt8)) = true := bne_iff_ne.mpr c15
     have c15b2 : a0_1.toList.isEmpty = false := List.isEmpty_eq_false_iff.mpr c15
     (first | rw [c15b0] | rw [c15b1] | rw [c15b2] | (simp only [i64_w, i32_w]; rw [c15b0]) | skip)
     (try simp only [Bool.not_true, Bool.not_false])
     by_cases c16 : x3_1.length < 8796093022208
     ·rw [if_pos c16] at H
      have LMc16 := Aside0.mk c16
      clear c16
      obtain ⟨y200, hy200⟩ : ∃ y_ : List ByteArray, y_ = (x3_1 ++ [a0_1]) := ⟨_, rfl⟩
      replace H : (tag_text.j1 kj1 y200 a0_0 a0_1 a0_2 l0_3 l0_4) = some r := by first | (rw [hy200]; with_reducible exact H) | (have H2_ := (Option.bind_some _ _).symm.trans H; rw [hy200]; with_reducible exact H2_) | (have H2_ := (Option.bind_some _ _).symm.trans H; with_reducible exact H2_) | with_reducible exact H | (rw [hy200]; exact H) | exact H
      have Ny200 := Aside0.mk hy200
      clear hy200
      have H' := Aside0.mk H
      clear H
      obtain ⟨hcz17_0, hcz17_1, hcz17_2, hcz17_3, hcz17_4, hfz17_0, hfz17_1, hfz17_2, hfz17_3, hfz17_4⟩ := c5_ BK195
      go_wp2_with (first | ((with_reducible refine gate_builtin (b := .append) (xs := #[.tmp 17, .tmp 20]) rfl ?_); at_builtin; refine Kd.R_append Kd.string (w0 := w) w.heap.size rfl (.tmp 17) (.tmp 20) 22 9 (.string ⟨#[]⟩) 16 rfl Tryz.underlying22 info9 rfl (by decide) (by omega) v197 x3_1 a0_1 [.string a0_1] (fun _ => True) (fun _ => False) rfl rfl ?aP (fun _ hk => hk.elim) ?aF ?aO ?aB ?aS ?aL ?_; (case aP => exact rfl); (case aB => exact (by repeat (first | (with_reducible first | exact HB.out | apply below_alloc | apply pw_below_drewN | apply below_drew1 | refine below_set ?_ GE195.out) | exact HB.out))); (case aF => exact (fun _ _ => trivial)); (case aO => exact (ra_ HO_3)); (case aS => exact (below_size (by repeat (first | (with_reducible first | exact HB.out | apply below_alloc | apply pw_below_drewN | apply below_drew1 | refine below_set ?_ GE195.out) | exact HB.out)))); (case aL => have := LMc16.out; omega); intro v201 w18 ho hb hg hat; rw [← Ny200.out] at ho; replace BK195 := Aside0.mk (blk_grown (g := gb195) (o := .cells #[.string a0_0, .string a0_1, .string a0_2, .slice A0_3 l0_3.length c0_3, .slice A0_4 l0_4.length c0_4] 25 (0, 0)) (bk_ BK195) hg (Kd.R_ne HO_3.out BK195.out (by decide))); replace HB := Aside0.mk (hb); have HO202 := Aside0.mk (ho); clear HO_3; clear ho hb hg hat))
      go_meet
      case rel => exact ⟨_, (y200), H', ⟨by have := HJ1.out; first | omega | exact Nat.le_refl _⟩, ⟨by (with_reducible repeat (first | apply Kd.R_alloc | apply Kd.R_drewN | apply Kd.R_drew)); exact HO202.out⟩, ⟨by (with_reducible repeat (first | refine blk_drewN ?_ _ | refine blk_drew ?_ | refine blk_alloc ?_ _)); exact BK195.out⟩, ⟨by repeat (first | (with_reducible first | exact HB.out | apply below_alloc | apply pw_below_drewN | apply below_drew1 | refine below_set ?_ GE195.out) | exact HB.out)⟩⟩
     ·rw [if_neg c16] at H
      exact absurd H (by simp)
   case rest =>
    clear HC13
    clear hcz14_0 hcz14_1 hcz14_2 hcz14_3 hcz14_4 hfz14_0 hfz14_1 hfz14_2 hfz14_3 hfz14_4
    obtain ⟨kq, x3_12, HA, HJ12, HO_3, BK195, HB⟩ := hcut
    cases kq with
    | zero => exact absurd HA.out (by simp [tag_text.j1])
    | succ kj12 =>
     have H := HA.out
     clear HA
     simp only [tag_text.j1] at H
     have HC19 := Aside0.mk H
     clear H
     obtain ⟨hcz20_0, hcz20_1, hcz20_2, hcz20_3, hcz20_4, hfz20_0, hfz20_1, hfz20_2, hfz20_3, hfz20_4⟩ := c5_ BK195
     go_upto_if 24 with (fail)
     go_cut [3] (fun v3 wc => ∃ (kq : Nat) (x3_18 : List ByteArray), Aside0 (tag_text.j2 kq x3_18 a0_0 a0_1 a0_2 l0_3 l0_4 = some r) ∧ Aside0 (kq ≤ kj12) ∧ Aside0 (Kd.R Kd.string 9 wc w.heap.size (fun _ => True) v3 x3_18) ∧ Aside0 (wc.heap[gb195]? = some (.cells #[.string a0_0, .string a0_1, .string a0_2, (.slice A0_3 l0_3.length c0_3), (.slice A0_4 l0_4.length c0_4)] 25 (0, 0))) ∧ Aside0 (Below w.heap.size w wc))
     case first =>
      have H := HC19.out
      clear HC19
      by_cases c21 : a0_2.toList = ([] : List UInt8)
      ·rw [if_pos c21] at H
       have c21b0 : (a0_2.toList == ([] : List UInt8)) = true := beq_iff_eq.mpr c21
       have c21b1 : (a0_2.toList != ([] : List UInt8)) = false := bne_eq_false_iff_eq.mpr c21
       have c21b2 : a0_2.toList.isEmpty = true := List.isEmpty_iff.mpr c21
       clear c21
       (first | rw [c21b0] | rw [c21b1] | rw [c21b2] | (simp only [i64_w, i32_w]; rw [c21b0]) | skip)
       (try simp only [Bool.not_true, Bool.not_false])
       have H' := Aside0.mk H
       clear H
       go_wp2
       go_meet
       case rel => exact ⟨_, (x3_12), H', ⟨by have := HJ1.out; have := HJ12.out; first | omega | exact Nat.le_refl _⟩, ⟨by (with_reducible repeat (first | apply Kd.R_alloc | apply Kd.R_drewN | apply Kd.R_drew)); exact HO_3.out⟩, ⟨by (with_reducible repeat (first | refine blk_drewN ?_ _ | refine blk_drew ?_ | refine blk_alloc ?_ _)); exact BK195.out⟩, ⟨by repeat (first | (with_reducible first | exact HB.out | apply below_alloc | apply pw_below_drewN | apply below_drew1 | refine below_set ?_ GE195.out) | exact HB.out)⟩⟩
      ·rw [if_neg c21] at H
       have c21b0 : (a0_2.toList == ([] : List UInt8)) = false := beq_eq_false_iff_ne.mpr c21
       have c21b1 : (a0_2.toList != ([] : List UInt8)) = true := bne_iff_ne.mpr c21
       have c21b2 : a0_2.toList.isEmpty = false := List.isEmpty_eq_false_iff.mpr c21
       (first | rw [c21b0] | rw [c21b1] | rw [c21b2] | (simp only [i64_w, i32_w]; rw [c21b0]) | skip)
       (try simp only [Bool.not_true, Bool.not_false])
       by_cases c22 : x3_12.length < 8796093022208
       ·rw [if_pos c22] at H
        have LMc22 := Aside0.mk c22
        clear c22
        obtain ⟨y203, hy203⟩ : ∃ y_ : List ByteArray, y_ = (x3_12 ++ [a0_2]) := ⟨_, rfl⟩
        replace H : (tag_text.j2 kj12 y203 a0_0 a0_1 a0_2 l0_3 l0_4) = some r := by first | (rw [hy203]; with_reducible exact H) | (have H2_ := (Option.bind_some _ _).symm.trans H; rw [hy203]; with_reducible exact H2_) | (have H2_ := (Option.bind_some _ _).symm.trans H; with_reducible exact H2_) | with_reducible exact H | (rw [hy203]; exact H) | exact H
        have Ny203 := Aside0.mk hy203
        clear hy203
        have H' := Aside0.mk H
        clear H
        obtain ⟨hcz23_0, hcz23_1, hcz23_2, hcz23_3, hcz23_4, hfz23_0, hfz23_1, hfz23_2, hfz23_3, hfz23_4⟩ := c5_ BK195
        go_wp2_with (first | ((with_reducible refine gate_builtin (b := .append) (xs := #[.tmp 25, .tmp 28]) rfl ?_); at_builtin; refine Kd.R_append Kd.string (w0 := w) w.heap.size rfl (.tmp 25) (.tmp 28) 22 9 (.string ⟨#[]⟩) 16 rfl Tryz.underlying22 info9 rfl (by decide) (by omega) u3 x3_12 a0_2 [.string a0_2] (fun _ => True) (fun _ => False) rfl rfl ?aP (fun _ hk => hk.elim) ?aF ?aO ?aB ?aS ?aL ?_; (case aP => exact rfl); (case aB => exact (by repeat (first | (with_reducible first | exact HB.out | apply below_alloc | apply pw_below_drewN | apply below_drew1 | refine below_set ?_ GE195.out) | exact HB.out))); (case aF => exact (fun _ _ => trivial)); (case aO => exact (ra_ HO_3)); (case aS => exact (below_size (by repeat (first | (with_reducible first | exact HB.out | apply below_alloc | apply pw_below_drewN | apply below_drew1 | refine below_set ?_ GE195.out) | exact HB.out)))); (case aL => have := LMc22.out; omega); intro v204 w24 ho hb hg hat; rw [← Ny203.out] at ho; replace BK195 := Aside0.mk (blk_grown (g := gb195) (o := .cells #[.string a0_0, .string a0_1, .string a0_2, .slice A0_3 l0_3.length c0_3, .slice A0_4 l0_4.length c0_4] 25 (0, 0)) (bk_ BK195) hg (Kd.R_ne HO_3.out BK195.out (by decide))); replace HB := Aside0.mk (hb); have HO205 := Aside0.mk (ho); clear HO_3; clear ho hb hg hat))
        go_meet
        case rel => exact ⟨_, (y203), H', ⟨by have := HJ1.out; have := HJ12.out; first | omega | exact Nat.le_refl _⟩, ⟨by (with_reducible repeat (first | apply Kd.R_alloc | apply Kd.R_drewN | apply Kd.R_drew)); exact HO205.out⟩, ⟨by (with_reducible repeat (first | refine blk_drewN ?_ _ | refine blk_drew ?_ | refine blk_alloc ?_ _)); exact BK195.out⟩, ⟨by repeat (first | (with_reducible first | exact HB.out | apply below_alloc | apply pw_below_drewN | apply below_drew1 | refine below_set ?_ GE195.out) | exact HB.out)⟩⟩
       ·rw [if_neg c22] at H
        exact absurd H (by simp)
     case rest =>
      clear HC19
      clear hcz20_0 hcz20_1 hcz20_2 hcz20_3 hcz20_4 hfz20_0 hfz20_1 hfz20_2 hfz20_3 hfz20_4
      obtain ⟨kq, x3_18, HA, HJ18, HO_3, BK195, HB⟩ := hcut
      cases kq with
      | zero => exact absurd HA.out (by simp [tag_text.j2])
      | succ kj18 =>
       have H := HA.out
       clear HA
       simp only [tag_text.j2] at H
       by_cases c25 : x3_18.length + l0_3.length < 8796093022208
       ·rw [if_pos c25] at H
        have LMc25 := Aside0.mk c25
        clear c25
        obtain ⟨y206, hy206⟩ : ∃ y_ : List ByteArray, y_ = (x3_18 ++ l0_3) := ⟨_, rfl⟩
        replace H : (if (l0_4.length : Int) > 0 then (if y206.length < 8796093022208 then (tag_text.j3 kj18 (y206 ++ [(⟨#[117]⟩ : ByteArray)]) a0_0 a0_1 a0_2 l0_3 l0_4) else (none)) else (tag_text.j3 kj18 y206 a0_0 a0_1 a0_2 l0_3 l0_4)) = some r := by first | (rw [hy206]; with_reducible exact H) | (have H2_ := (Option.bind_some _ _).symm.trans H; rw [hy206]; with_reducible exact H2_) | (have H2_ := (Option.bind_some _ _).symm.trans H; with_reducible exact H2_) | with_reducible exact H | (rw [hy206]; exact H) | exact H
        have Ny206 := Aside0.mk hy206
        clear hy206
        have HC26 := Aside0.mk H
        clear H
        obtain ⟨hcz27_0, hcz27_1, hcz27_2, hcz27_3, hcz27_4, hfz27_0, hfz27_1, hfz27_2, hfz27_3, hfz27_4⟩ := c5_ BK195
        go_upto_if 37 with (first | ((with_reducible refine gate_builtin (b := .append) (xs := #[.tmp 30, .tmp 32]) rfl ?_); at_builtin; refine Kd.R_append_rows Kd.string (w0 := w) w.heap.size rfl (.tmp 30) (.tmp 32) 22 9 (.string ⟨#[]⟩) 16 rfl Tryz.underlying22 info9 rfl (by decide) (by omega) u3 x3_18 l0_3 _ _ _ (fun _ => True) (fun _ => False) rfl rfl ?aO ?aR (fun _ _ h => h) (fun _ h => h.elim) ?aF ?aB ?aS ?aL ?_; (case aR => repeat (first | exact (Kd.C_below HR0_3.out HB.out) | (with_reducible refine Kd.C_alloc ?_ _) | (with_reducible refine Kd.C_drewN ?_ _) | (with_reducible refine Kd.C_drew ?_))); (case aB => exact (by repeat (first | (with_reducible first | exact HB.out | apply below_alloc | apply pw_below_drewN | apply below_drew1 | refine below_set ?_ GE195.out) | exact HB.out))); (case aF => exact (fun _ _ => trivial)); (case aO => exact (ra_ HO_3)); (case aS => exact (below_size (by repeat (first | (with_reducible first | exact HB.out | apply below_alloc | apply pw_below_drewN | apply below_drew1 | refine below_set ?_ GE195.out) | exact HB.out)))); (case aL => have := LMc25.out; omega); intro v207 w28 ho hb hg hat; rw [← Ny206.out] at ho; replace BK195 := Aside0.mk (blk_grown (g := gb195) (o := .cells #[.string a0_0, .string a0_1, .string a0_2, .slice A0_3 l0_3.length c0_3, .slice A0_4 l0_4.length c0_4] 25 (0, 0)) (bk_ BK195) hg (Kd.R_ne HO_3.out BK195.out (by decide))); replace HB := Aside0.mk (hb); have HO208 := Aside0.mk (ho); clear HO_3; clear ho hb hg hat; obtain ⟨hcz29_0, hcz29_1, hcz29_2, hcz29_3, hcz29_4, hfz29_0, hfz29_1, hfz29_2, hfz29_3, hfz29_4⟩ := c5_ BK195))
        (try simp only [Act.put, List.setIfInBounds_toArray, List.set_cons_zero, List.set_cons_succ])
        go_cut [3] (fun v3 wc => ∃ (kq : Nat) (x3_25 : List ByteArray), Aside0 (tag_text.j3 kq x3_25 a0_0 a0_1 a0_2 l0_3 l0_4 = some r) ∧ Aside0 (kq ≤ kj18) ∧ Aside0 (Kd.R Kd.string 9 wc w.heap.size (fun _ => True) v3 x3_25) ∧ Aside0 (wc.heap[gb195]? = some (.cells #[.string a0_0, .string a0_1, .string a0_2, (.slice A0_3 l0_3.length c0_3), (.slice A0_4 l0_4.length c0_4)] 25 (0, 0))) ∧ Aside0 (Below w.heap.size w wc))
        case first =>
         have H := HC26.out
         clear HC26
         by_cases c30 : (l0_4.length : Int) > 0
         ·rw [if_pos c30] at H
          have c30b0 : decide (0 < (l0_4.length : Int)) = true := decide_eq_true c30
          have c30b1 : decide (0 < l0_4.length) = true := decide_eq_true (by omega)
          clear c30
          (first | rw [c30b0] | rw [c30b1] | rw [c30b2] | (simp only [i64_w, i32_w]; rw [c30b0]) | skip)
          (try simp only [Bool.not_true, Bool.not_false])
          by_cases c31 : y206.length < 8796093022208
          ·rw [if_pos c31] at H
           have LMc31 := Aside0.mk c31
           clear c31
           obtain ⟨y209, hy209⟩ : ∃ y_ : List ByteArray, y_ = (y206 ++ [(⟨#[117]⟩ : ByteArray)]) := ⟨_, rfl⟩
           replace H : (tag_text.j3 kj18 y209 a0_0 a0_1 a0_2 l0_3 l0_4) = some r := by first | (rw [hy209]; with_reducible exact H) | (have H2_ := (Option.bind_some _ _).symm.trans H; rw [hy209]; with_reducible exact H2_) | (have H2_ := (Option.bind_some _ _).symm.trans H; with_reducible exact H2_) | with_reducible exact H | (rw [hy209]; exact H) | exact H
           have Ny209 := Aside0.mk hy209
           clear hy209
           have H' := Aside0.mk H
           clear H
           go_wp2_with (first | ((with_reducible refine gate_builtin (b := .append) (xs := #[.tmp 38, .tmp 39]) rfl ?_); at_builtin; refine Kd.R_append Kd.string (w0 := w) w.heap.size rfl (.tmp 38) (.tmp 39) 22 9 (.string ⟨#[]⟩) 16 rfl Tryz.underlying22 info9 rfl (by decide) (by omega) v207 y206 (⟨#[117]⟩ : ByteArray) [.string (⟨#[117]⟩ : ByteArray)] (fun _ => True) (fun _ => False) rfl rfl ?aP (fun _ hk => hk.elim) ?aF ?aO ?aB ?aS ?aL ?_; (case aP => exact rfl); (case aB => exact (by repeat (first | (with_reducible first | exact HB.out | apply below_alloc | apply pw_below_drewN | apply below_drew1 | refine below_set ?_ GE195.out) | exact HB.out))); (case aF => exact (fun _ _ => trivial)); (case aO => exact (ra_ HO208)); (case aS => exact (below_size (by repeat (first | (with_reducible first | exact HB.out | apply below_alloc | apply pw_below_drewN | apply below_drew1 | refine below_set ?_ GE195.out) | exact HB.out)))); (case aL => have := LMc31.out; omega); intro v210 w32 ho hb hg hat; rw [← Ny209.out] at ho; replace BK195 := Aside0.mk (blk_grown (g := gb195) (o := .cells #[.string a0_0, .string a0_1, .string a0_2, .slice A0_3 l0_3.length c0_3, .slice A0_4 l0_4.length c0_4] 25 (0, 0)) (bk_ BK195) hg (Kd.R_ne HO208.out BK195.out (by decide))); replace HB := Aside0.mk (hb); have HO211 := Aside0.mk (ho); clear HO208; clear ho hb hg hat))
           go_meet
           case rel => exact ⟨_, (y209), H', ⟨by have := HJ1.out; have := HJ12.out; have := HJ18.out; first | omega | exact Nat.le_refl _⟩, ⟨by (with_reducible repeat (first | apply Kd.R_alloc | apply Kd.R_drewN | apply Kd.R_drew)); exact HO211.out⟩, ⟨by (with_reducible repeat (first | refine blk_drewN ?_ _ | refine blk_drew ?_ | refine blk_alloc ?_ _)); exact BK195.out⟩, ⟨by repeat (first | (with_reducible first | exact HB.out | apply below_alloc | apply pw_below_drewN | apply below_drew1 | refine below_set ?_ GE195.out) | exact HB.out)⟩⟩
          ·rw [if_neg c31] at H
           exact absurd H (by simp)
         ·rw [if_neg c30] at H
          have c30b0 : decide (0 < (l0_4.length : Int)) = false := decide_eq_false c30
          have c30b1 : decide (0 < l0_4.length) = false := decide_eq_false (by omega)
          clear c30
          (first | rw [c30b0] | rw [c30b1] | rw [c30b2] | (simp only [i64_w, i32_w]; rw [c30b0]) | skip)
          (try simp only [Bool.not_true, Bool.not_false])
          have H' := Aside0.mk H
          clear H
          go_wp2
          go_meet
          case rel => exact ⟨_, (y206), H', ⟨by have := HJ1.out; have := HJ12.out; have := HJ18.out; first | omega | exact Nat.le_refl _⟩, ⟨by (with_reducible repeat (first | apply Kd.R_alloc | apply Kd.R_drewN | apply Kd.R_drew)); exact HO208.out⟩, ⟨by (with_reducible repeat (first | refine blk_drewN ?_ _ | refine blk_drew ?_ | refine blk_alloc ?_ _)); exact BK195.out⟩, ⟨by repeat (first | (with_reducible first | exact HB.out | apply below_alloc | apply pw_below_drewN | apply below_drew1 | refine below_set ?_ GE195.out) | exact HB.out)⟩⟩
        case rest =>
         clear HC26
         clear hcz27_0 hcz27_1 hcz27_2 hcz27_3 hcz27_4 hcz29_0 hcz29_1 hcz29_2 hcz29_3 hcz29_4 hfz27_0 hfz27_1 hfz27_2 hfz27_3 hfz27_4 hfz29_0 hfz29_1 hfz29_2 hfz29_3 hfz29_4
         obtain ⟨kq, x3_25, HA, HJ25, HO_3, BK195, HB⟩ := hcut
         cases kq with
         | zero => exact absurd HA.out (by simp [tag_text.j3])
         | succ kj25 =>
          have H := HA.out
          clear HA
          simp only [tag_text.j3] at H
          have H' := Aside0.mk H
          clear H
          obtain ⟨hcz33_0, hcz33_1, hcz33_2, hcz33_3, hcz33_4, hfz33_0, hfz33_1, hfz33_2, hfz33_3, hfz33_4⟩ := c5_ BK195
          go_wp2
          go_loopg [3, 44] kj25 (fun kq v3 v44 w' => ∃ (x3_5 : List ByteArray) (x44_5 : Int), v44 = .int .i64 x44_5 ∧ Aside0 (tag_text.l0 kq x3_5 l0_4 (l0_4.length : Int) x44_5 = some r) ∧ Aside0 (kq ≤ kj25) ∧ Aside0 (Kd.R Kd.string 9 w' w.heap.size (fun _ => True) v3 x3_5) ∧ Aside0 (w'.heap[gb195]? = some (.cells #[.string a0_0, .string a0_1, .string a0_2, (.slice A0_3 l0_3.length c0_3), (.slice A0_4 l0_4.length c0_4)] 25 (0, 0))) ∧ Aside0 (Below w.heap.size w w'))
          case atStart => exact ⟨(x3_25), (0), (by first | rfl | (simp; done) | (simp [*]; done)), H', ⟨Nat.le_refl _⟩, ⟨by (with_reducible repeat (first | apply Kd.R_alloc | apply Kd.R_drewN | apply Kd.R_drew)); exact HO_3.out⟩, ⟨by (with_reducible repeat (first | refine blk_drewN ?_ _ | refine blk_drew ?_ | refine blk_alloc ?_ _)); exact BK195.out⟩, ⟨by repeat (first | (with_reducible first | exact HB.out | apply below_alloc | apply pw_below_drewN | apply below_drew1 | refine below_set ?_ GE195.out) | exact HB.out)⟩⟩
          case round =>
           clear H'
           clear hcz33_0 hcz33_1 hcz33_2 hcz33_3 hcz33_4 hfz33_0 hfz33_1 hfz33_2 hfz33_3 hfz33_4
           obtain ⟨x3_5, x44_5, rfl, HA, HK5, HO_3, BK195, HB⟩ := hrel
           cases gk with
           | zero => exact absurd HA.out (by simp [tag_text.l0])
           | succ k5 =>
            have H := HA.out
            clear HA
            simp only [tag_text.l0] at H
            by_cases c34 : x44_5 < (l0_4.length : Int)
            ·rw [if_pos c34] at H
             have c34b0 : decide (x44_5 < (l0_4.length : Int)) = true := decide_eq_true c34
             clear c34
             by_cases c35 : 0 ≤ x44_5
             ·rw [if_pos c35] at H
              have c35b0 : decide (0 ≤ x44_5) = true := decide_eq_true c35
              clear c35
              by_cases c36 : x44_5 < (l0_4.length : Int)
              ·rw [if_pos c36] at H
               have c36b0 : decide (x44_5 < (l0_4.length : Int)) = true := decide_eq_true c36
               clear c36
               by_cases c37 : x3_5.length < 8796093022208
               ·rw [if_pos c37] at H
                have LMc37 := Aside0.mk c37
                clear c37
                obtain ⟨y214, hy214⟩ : ∃ y_ : List ByteArray, y_ = (x3_5 ++ [(rd_T39 l0_4 x44_5).f0]) := ⟨_, rfl⟩
                replace H : (if ((rd_T39 l0_4 x44_5).f1).toList = ([] : List UInt8) then (tag_text.l0 k5 y214 l0_4 (l0_4.length : Int) (wrap64 (x44_5 + 1))) else (if y214.length < 8796093022208 then (tag_text.l0 k5 (y214 ++ [(rd_T39 l0_4 x44_5).f1]) l0_4 (l0_4.length : Int) (wrap64 (x44_5 + 1))) else (none))) = some r := by first | (rw [hy214]; with_reducible exact H) | (have H2_ := (Option.bind_some _ _).symm.trans H; rw [hy214]; with_reducible exact H2_) | (have H2_ := (Option.bind_some _ _).symm.trans H; with_reducible exact H2_) | with_reducible exact H | (rw [hy214]; exact H) | exact H
                have Ny214 := Aside0.mk hy214
                clear hy214
                by_cases c38 : ((rd_T39 l0_4 x44_5).f1).toList = ([] : List UInt8)
                ·rw [if_pos c38] at H
                 have c38b0 : (((rd_T39 l0_4 x44_5).f1).toList == ([] : List UInt8)) = true := beq_iff_eq.mpr c38
                 have c38b1 : (((rd_T39 l0_4 x44_5).f1).toList != ([] : List UInt8)) = false := bne_eq_false_iff_eq.mpr c38
                 have c38b2 : ((rd_T39 l0_4 x44_5).f1).toList.isEmpty = true := List.isEmpty_iff.mpr c38
                 clear c38
                 have H' := Aside0.mk H
                 clear H
                 have p212 : 0 ≤ (x44_5 : Int) := of_decide_eq_true (by first | (with_reducible assumption) | assumption)
                 have q212 : x44_5 < (l0_4.length : Int) := of_decide_eq_true (by first | (with_reducible assumption) | assumption)
                 obtain ⟨ad212, e212, hx212_0, hx212_1⟩ := at_T39 HR0_4.out x44_5 p212 q212
                 cases e212
                 replace hx212_0 := (HB.out.cell (World.block_lt_of_cell? w _ hx212_0)).trans hx212_0
                 replace hx212_1 := (HB.out.cell (World.block_lt_of_cell? w _ hx212_1)).trans hx212_1
                 replace p212 := eq_true p212
                 replace q212 := eq_true q212
                 go_wp2_with (first | (refine bx_ 5 #[.string (⟨#[]⟩ : ByteArray), .string (⟨#[]⟩ : ByteArray)] 39 ?_; intro gb213 hg w39 hbox hb; replace HO_3 := Aside0.mk (Kd.R_below (ra_ HO_3) hb); have BK213 := Aside0.mk (hbox); have GW213 := Aside0.mk ((by rw [hg]; exact (below_size (by repeat (first | (with_reducible first | exact HB.out | apply below_alloc | apply pw_below_drewN | apply below_drew1 | refine below_set ?_ GE195.out) | exact HB.out))) : w.heap.size ≤ gb213)); have GE213 := Aside0.mk ((by rw [hg]; exact (below_size (by repeat (first | (with_reducible first | exact HB.out | apply below_alloc | apply pw_below_drewN | apply below_drew1 | refine below_set ?_ GE195.out) | exact HB.out))) : w.heap.size ≤ gb213)); replace HB := Aside0.mk (below_step (by repeat (first | (with_reducible first | exact HB.out | apply below_alloc | apply pw_below_drewN | apply below_drew1 | refine below_set ?_ GE195.out) | exact HB.out)) hb); have NB195_213 := Aside0.mk ((by rw [hg]; exact Nat.ne_of_lt (blk_lt (g := gb195) (o := .cells #[.string a0_0, .string a0_1, .string a0_2, .slice A0_3 l0_3.length c0_3, .slice (some ad212) l0_4.length c0_4] 25 (0, 0)) (bk_ BK195)) : gb195 ≠ gb213)); have NB213_195 := Aside0.mk ((by rw [hg]; exact Nat.ne_of_gt (blk_lt (g := gb195) (o := .cells #[.string a0_0, .string a0_1, .string a0_2, .slice A0_3 l0_3.length c0_3, .slice (some ad212) l0_4.length c0_4] 25 (0, 0)) (bk_ BK195)) : gb213 ≠ gb195)); replace BK195 := Aside0.mk (blk_below (g := gb195) (o := .cells #[.string a0_0, .string a0_1, .string a0_2, .slice A0_3 l0_3.length c0_3, .slice (some ad212) l0_4.length c0_4] 25 (0, 0)) (bk_ BK195) hb); clear hb hbox hg; have hnb40 := NB213_195.out; have hnc40 := NB195_213.out; have hcz41_0 : w39.cell? ⟨gb213, 0, none⟩ = some (.string (⟨#[]⟩ : ByteArray)) := (blk_cell BK213.out 0).trans rfl; have hcz41_1 : w39.cell? ⟨gb213, 1, none⟩ = some (.string (⟨#[]⟩ : ByteArray)) := (blk_cell BK213.out 1).trans rfl; have hfz41_0 := blk_frozen BK213.out 0; have hfz41_1 := blk_frozen BK213.out 1) | ((with_reducible refine gate_builtin (b := .append) (xs := #[.tmp 48, .tmp 51]) rfl ?_); at_builtin; refine Kd.R_append Kd.string (w0 := w) w.heap.size rfl (.tmp 48) (.tmp 51) 22 9 (.string ⟨#[]⟩) 16 rfl Tryz.underlying22 info9 rfl (by decide) (by omega) u3 x3_5 ((rd_T39 l0_4 x44_5).f0) [.string ((rd_T39 l0_4 x44_5).f0)] (fun _ => True) (fun _ => False) rfl (by first | (go_simp; done) | (go_simp; rfl)) ?aP (fun _ hk => hk.elim) ?aF ?aO ?aB ?aS ?aL ?_; (case aP => exact rfl); (case aB => exact (by repeat (first | (with_reducible first | exact HB.out | apply below_alloc | apply pw_below_drewN | apply below_drew1 | refine below_set ?_ GE195.out | refine below_set ?_ GE213.out) | exact HB.out))); (case aF => exact (fun _ _ => trivial)); (case aO => exact (by (with_reducible repeat (first | apply Kd.R_alloc | apply Kd.R_drewN | apply Kd.R_drew)); exact Kd.R_mono (Kd.R_far (p := ⟨gb213, 1, none⟩) (Kd.R_far (p := ⟨gb213, 0, none⟩) (Kd.R_types HO_3.out BK213.out (by decide)) (fun _ hk => hk.2) (.string ((rd_T39 l0_4 x44_5).f0))) (fun _ hk => hk.2) (.string ((rd_T39 l0_4 x44_5).f1))) (fun _ hk => trivial))); (case aS => exact (below_size (by repeat (first | (with_reducible first | exact HB.out | apply below_alloc | apply pw_below_drewN | apply below_drew1 | refine below_set ?_ GE195.out | refine below_set ?_ GE213.out) | exact HB.out)))); (case aL => have := LMc37.out; omega); intro v215 w42 ho hb hg hat; rw [← Ny214.out] at ho; replace BK195 := Aside0.mk (blk_grown (g := gb195) (o := .cells #[.string a0_0, .string a0_1, .string a0_2, .slice A0_3 l0_3.length c0_3, .slice (some ad212) l0_4.length c0_4] 25 (0, 0)) (by (with_reducible repeat (first | refine blk_drewN ?_ _ | refine blk_drew ?_ | refine blk_alloc ?_ _)); refine blk_far ?_ NB195_213.out _; (with_reducible repeat (first | refine blk_drewN ?_ _ | refine blk_drew ?_ | refine blk_alloc ?_ _)); refine blk_far ?_ NB195_213.out _; (with_reducible repeat (first | refine blk_drewN ?_ _ | refine blk_drew ?_ | refine blk_alloc ?_ _)); exact BK195.out) hg (Kd.R_ne HO_3.out BK195.out (by decide))); replace BK213 := Aside0.mk (blk_grown (g := gb213) (o := .cells #[.string ((rd_T39 l0_4 x44_5).f0), .string ((rd_T39 l0_4 x44_5).f1)] 39 (0, 0)) (by (with_reducible repeat (first | refine blk_drewN ?_ _ | refine blk_drew ?_ | refine blk_alloc ?_ _)); refine blk_put (cs := #[.string ((rd_T39 l0_4 x44_5).f0), .string (⟨#[]⟩ : ByteArray)]) ?_ 1 _ rfl; (with_reducible repeat (first | refine blk_drewN ?_ _ | refine blk_drew ?_ | refine blk_alloc ?_ _)); refine blk_put (cs := #[.string (⟨#[]⟩ : ByteArray), .string (⟨#[]⟩ : ByteArray)]) ?_ 0 _ rfl; (with_reducible repeat (first | refine blk_drewN ?_ _ | refine blk_drew ?_ | refine blk_alloc ?_ _)); exact BK213.out) hg (Kd.R_ne HO_3.out BK213.out (by decide))); replace HB := Aside0.mk (hb); have HO216 := Aside0.mk (ho); clear HO_3; clear ho hb hg hat; have hcz43_0 : w42.cell? ⟨gb213, 0, none⟩ = some (.string ((rd_T39 l0_4 x44_5).f0)) := (blk_cell BK213.out 0).trans rfl; have hcz43_1 : w42.cell? ⟨gb213, 1, none⟩ = some (.string ((rd_T39 l0_4 x44_5).f1)) := (blk_cell BK213.out 1).trans rfl; have hfz43_0 := blk_frozen BK213.out 0; have hfz43_1 := blk_frozen BK213.out 1))
                 go_roundg k5
                 case measure => have := HJ1.out; have := HJ12.out; have := HJ18.out; have := HJ25.out; have := HK5.out; omega
                 case rel => exact ⟨(y214), (wrap64 (x44_5 + 1)), (by first | rfl | (simp; done) | (simp [*]; done)), H', ⟨by have := HJ1.out; have := HJ12.out; have := HJ18.out; have := HJ25.out; have := HK5.out; omega⟩, ⟨by (with_reducible repeat (first | apply Kd.R_alloc | apply Kd.R_drewN | apply Kd.R_drew)); exact HO216.out⟩, ⟨by (with_reducible repeat (first | refine blk_drewN ?_ _ | refine blk_drew ?_ | refine blk_alloc ?_ _)); exact BK195.out⟩, ⟨by repeat (first | (with_reducible first | exact HB.out | apply below_alloc | apply pw_below_drewN | apply below_drew1 | refine below_set ?_ GE195.out | refine below_set ?_ GE213.out) | exact HB.out)⟩⟩
                ·rw [if_neg c38] at H
                 have c38b0 : (((rd_T39 l0_4 x44_5).f1).toList == ([] : List UInt8)) = false := beq_eq_false_iff_ne.mpr c38
                 have c38b1 : (((rd_T39 l0_4 x44_5).f1).toList != ([] : List UInt8)) = true := bne_iff_ne.mpr c38
                 have c38b2 : ((rd_T39 l0_4 x44_5).f1).toList.isEmpty = false := List.isEmpty_eq_false_iff.mpr c38
                 by_cases c44 : y214.length < 8796093022208
                 ·rw [if_pos c44] at H
                  have LMc44 := Aside0.mk c44
                  clear c44
                  obtain ⟨y217, hy217⟩ : ∃ y_ : List ByteArray, y_ = (y214 ++ [(rd_T39 l0_4 x44_5).f1]) := ⟨_, rfl⟩
                  replace H : (tag_text.l0 k5 y217 l0_4 (l0_4.length : Int) (wrap64 (x44_5 + 1))) = some r := by first | (rw [hy217]; with_reducible exact H) | (have H2_ := (Option.bind_some _ _).symm.trans H; rw [hy217]; with_reducible exact H2_) | (have H2_ := (Option.bind_some _ _).symm.trans H; with_reducible exact H2_) | with_reducible exact H | (rw [hy217]; exact H) | exact H
                  have Ny217 := Aside0.mk hy217
                  clear hy217
                  have H' := Aside0.mk H
                  clear H
                  have p212 : 0 ≤ (x44_5 : Int) := of_decide_eq_true (by first | (with_reducible assumption) | assumption)
                  have q212 : x44_5 < (l0_4.length : Int) := of_decide_eq_true (by first | (with_reducible assumption) | assumption)
                  obtain ⟨ad212, e212, hx212_0, hx212_1⟩ := at_T39 HR0_4.out x44_5 p212 q212
                  cases e212
                  replace hx212_0 := (HB.out.cell (World.block_lt_of_cell? w _ hx212_0)).trans hx212_0
                  replace hx212_1 := (HB.out.cell (World.block_lt_of_cell? w _ hx212_1)).trans hx212_1
                  replace p212 := eq_true p212
                  replace q212 := eq_true q212
                  go_wp2_with (first | (refine bx_ 5 #[.string (⟨#[]⟩ : ByteArray), .string (⟨#[]⟩ : ByteArray)] 39 ?_; intro gb213 hg w45 hbox hb; replace HO_3 := Aside0.mk (Kd.R_below (ra_ HO_3) hb); have BK213 := Aside0.mk (hbox); have GW213 := Aside0.mk ((by rw [hg]; exact (below_size (by repeat (first | (with_reducible first | exact HB.out | apply below_alloc | apply pw_below_drewN | apply below_drew1 | refine below_set ?_ GE195.out) | exact HB.out))) : w.heap.size ≤ gb213)); have GE213 := Aside0.mk ((by rw [hg]; exact (below_size (by repeat (first | (with_reducible first | exact HB.out | apply below_alloc | apply pw_below_drewN | apply below_drew1 | refine below_set ?_ GE195.out) | exact HB.out))) : w.heap.size ≤ gb213)); replace HB := Aside0.mk (below_step (by repeat (first | (with_reducible first | exact HB.out | apply below_alloc | apply pw_below_drewN | apply below_drew1 | refine below_set ?_ GE195.out) | exact HB.out)) hb); have NB195_213 := Aside0.mk ((by rw [hg]; exact Nat.ne_of_lt (blk_lt (g := gb195) (o := .cells #[.string a0_0, .string a0_1, .string a0_2, .slice A0_3 l0_3.length c0_3, .slice (some ad212) l0_4.length c0_4] 25 (0, 0)) (bk_ BK195)) : gb195 ≠ gb213)); have NB213_195 := Aside0.mk ((by rw [hg]; exact Nat.ne_of_gt (blk_lt (g := gb195) (o := .cells #[.string a0_0, .string a0_1, .string a0_2, .slice A0_3 l0_3.length c0_3, .slice (some ad212) l0_4.length c0_4] 25 (0, 0)) (bk_ BK195)) : gb213 ≠ gb195)); replace BK195 := Aside0.mk (blk_below (g := gb195) (o := .cells #[.string a0_0, .string a0_1, .string a0_2, .slice A0_3 l0_3.length c0_3, .slice (some ad212) l0_4.length c0_4] 25 (0, 0)) (bk_ BK195) hb); clear hb hbox hg; have hnb46 := NB213_195.out; have hnc46 := NB195_213.out; have hcz47_0 : w45.cell? ⟨gb213, 0, none⟩ = some (.string (⟨#[]⟩ : ByteArray)) := (blk_cell BK213.out 0).trans rfl; have hcz47_1 : w45.cell? ⟨gb213, 1, none⟩ = some (.string (⟨#[]⟩ : ByteArray)) := (blk_cell BK213.out 1).trans rfl; have hfz47_0 := blk_frozen BK213.out 0; have hfz47_1 := blk_frozen BK213.out 1) | ((with_reducible refine gate_builtin (b := .append) (xs := #[.tmp 48, .tmp 51]) rfl ?_); at_builtin; refine Kd.R_append Kd.string (w0 := w) w.heap.size rfl (.tmp 48) (.tmp 51) 22 9 (.string ⟨#[]⟩) 16 rfl Tryz.underlying22 info9 rfl (by decide) (by omega) u3 x3_5 ((rd_T39 l0_4 x44_5).f0) [.string ((rd_T39 l0_4 x44_5).f0)] (fun _ => True) (fun _ => False) rfl (by first | (go_simp; done) | (go_simp; rfl)) ?aP (fun _ hk => hk.elim) ?aF ?aO ?aB ?aS ?aL ?_; (case aP => exact rfl); (case aB => exact (by repeat (first | (with_reducible first | exact HB.out | apply below_alloc | apply pw_below_drewN | apply below_drew1 | refine below_set ?_ GE195.out | refine below_set ?_ GE213.out) | exact HB.out))); (case aF => exact (fun _ _ => trivial)); (case aO => exact (by (with_reducible repeat (first | apply Kd.R_alloc | apply Kd.R_drewN | apply Kd.R_drew)); exact Kd.R_mono (Kd.R_far (p := ⟨gb213, 1, none⟩) (Kd.R_far (p := ⟨gb213, 0, none⟩) (Kd.R_types HO_3.out BK213.out (by decide)) (fun _ hk => hk.2) (.string ((rd_T39 l0_4 x44_5).f0))) (fun _ hk => hk.2) (.string ((rd_T39 l0_4 x44_5).f1))) (fun _ hk => trivial))); (case aS => exact (below_size (by repeat (first | (with_reducible first | exact HB.out | apply below_alloc | apply pw_below_drewN | apply below_drew1 | refine below_set ?_ GE195.out | refine below_set ?_ GE213.out) | exact HB.out)))); (case aL => have := LMc37.out; omega); intro v215 w48 ho hb hg hat; rw [← Ny214.out] at ho; replace BK195 := Aside0.mk (blk_grown (g := gb195) (o := .cells #[.string a0_0, .string a0_1, .string a0_2, .slice A0_3 l0_3.length c0_3, .slice (some ad212) l0_4.length c0_4] 25 (0, 0)) (by (with_reducible repeat (first | refine blk_drewN ?_ _ | refine blk_drew ?_ | refine blk_alloc ?_ _)); refine blk_far ?_ NB195_213.out _; (with_reducible repeat (first | refine blk_drewN ?_ _ | refine blk_drew ?_ | refine blk_alloc ?_ _)); refine blk_far ?_ NB195_213.out _; (with_reducible repeat (first | refine blk_drewN ?_ _ | refine blk_drew ?_ | refine blk_alloc ?_ _)); exact BK195.out) hg (Kd.R_ne HO_3.out BK195.out (by decide))); replace BK213 := Aside0.mk (blk_grown (g := gb213) (o := .cells #[.string ((rd_T39 l0_4 x44_5).f0), .string ((rd_T39 l0_4 x44_5).f1)] 39 (0, 0)) (by (with_reducible repeat (first | refine blk_drewN ?_ _ | refine blk_drew ?_ | refine blk_alloc ?_ _)); refine blk_put (cs := #[.string ((rd_T39 l0_4 x44_5).f0), .string (⟨#[]⟩ : ByteArray)]) ?_ 1 _ rfl; (with_reducible repeat (first | refine blk_drewN ?_ _ | refine blk_drew ?_ | refine blk_alloc ?_ _)); refine blk_put (cs := #[.string (⟨#[]⟩ : ByteArray), .string (⟨#[]⟩ : ByteArray)]) ?_ 0 _ rfl; (with_reducible repeat (first | refine blk_drewN ?_ _ | refine blk_drew ?_ | refine blk_alloc ?_ _)); exact BK213.out) hg (Kd.R_ne HO_3.out BK213.out (by decide))); replace HB := Aside0.mk (hb); have HO216 := Aside0.mk (ho); clear HO_3; clear ho hb hg hat; have hcz49_0 : w48.cell? ⟨gb213, 0, none⟩ = some (.string ((rd_T39 l0_4 x44_5).f0)) := (blk_cell BK213.out 0).trans rfl; have hcz49_1 : w48.cell? ⟨gb213, 1, none⟩ = some (.string ((rd_T39 l0_4 x44_5).f1)) := (blk_cell BK213.out 1).trans rfl; have hfz49_0 := blk_frozen BK213.out 0; have hfz49_1 := blk_frozen BK213.out 1) | ((with_reducible refine gate_builtin (b := .append) (xs := #[.tmp 56, .tmp 59]) rfl ?_); at_builtin; refine Kd.R_append Kd.string (w0 := w) w.heap.size rfl (.tmp 56) (.tmp 59) 22 9 (.string ⟨#[]⟩) 16 rfl Tryz.underlying22 info9 rfl (by decide) (by omega) v215 y214 ((rd_T39 l0_4 x44_5).f1) [.string ((rd_T39 l0_4 x44_5).f1)] (fun _ => True) (fun _ => False) rfl rfl ?aP (fun _ hk => hk.elim) ?aF ?aO ?aB ?aS ?aL ?_; (case aP => exact rfl); (case aB => exact (by repeat (first | (with_reducible first | exact HB.out | apply below_alloc | apply pw_below_drewN | apply below_drew1 | refine below_set ?_ GE195.out | refine below_set ?_ GE213.out) | exact HB.out))); (case aF => exact (fun _ _ => trivial)); (case aO => exact (ra_ HO216)); (case aS => exact (below_size (by repeat (first | (with_reducible first | exact HB.out | apply below_alloc | apply pw_below_drewN | apply below_drew1 | refine below_set ?_ GE195.out | refine below_set ?_ GE213.out) | exact HB.out)))); (case aL => have := LMc44.out; omega); intro v218 w50 ho hb hg hat; rw [← Ny217.out] at ho; replace BK195 := Aside0.mk (blk_grown (g := gb195) (o := .cells #[.string a0_0, .string a0_1, .string a0_2, .slice A0_3 l0_3.length c0_3, .slice (some ad212) l0_4.length c0_4] 25 (0, 0)) (bk_ BK195) hg (Kd.R_ne HO216.out BK195.out (by decide))); replace BK213 := Aside0.mk (blk_grown (g := gb213) (o := .cells #[.string ((rd_T39 l0_4 x44_5).f0), .string ((rd_T39 l0_4 x44_5).f1)] 39 (0, 0)) (bk_ BK213) hg (Kd.R_ne HO216.out BK213.out (by decide))); replace HB := Aside0.mk (hb); have HO219 := Aside0.mk (ho); clear HO216; clear ho hb hg hat))
                  go_roundg k5
                  case measure => have := HJ1.out; have := HJ12.out; have := HJ18.out; have := HJ25.out; have := HK5.out; omega
                  case rel => exact ⟨(y217), (wrap64 (x44_5 + 1)), (by first | rfl | (simp; done) | (simp [*]; done)), H', ⟨by have := HJ1.out; have := HJ12.out; have := HJ18.out; have := HJ25.out; have := HK5.out; omega⟩, ⟨by (with_reducible repeat (first | apply Kd.R_alloc | apply Kd.R_drewN | apply Kd.R_drew)); exact HO219.out⟩, ⟨by (with_reducible repeat (first | refine blk_drewN ?_ _ | refine blk_drew ?_ | refine blk_alloc ?_ _)); exact BK195.out⟩, ⟨by repeat (first | (with_reducible first | exact HB.out | apply below_alloc | apply pw_below_drewN | apply below_drew1 | refine below_set ?_ GE195.out | refine below_set ?_ GE213.out) | exact HB.out)⟩⟩
                 ·rw [if_neg c44] at H
                  exact absurd H (by simp)
               ·rw [if_neg c37] at H
                exact absurd H (by simp)
              ·rw [if_neg c36] at H
               exact absurd H (by simp)
             ·rw [if_neg c35] at H
              exact absurd H (by simp)
            ·rw [if_neg c34] at H
             have c34b0 : decide (x44_5 < (l0_4.length : Int)) = false := decide_eq_false c34
             clear c34
             replace H := Option.bind_eq_some_iff.mp H
             obtain ⟨t220, A510, H⟩ := H
             try dsimp only at H
             have A51 := Aside0.mk A510
             clear A510
             obtain rfl := Option.some.inj H
             obtain ⟨Ao52, co52, eo52⟩ := Kd.R_slice HO_3.out
             subst eo52
             go_wp2_with (first | ((with_reducible refine gate_callee (f := 69) rfl ?_); refine gb_ (some 63) Tryz.func69 #[.slice Ao52 x3_5.length co52, .string (⟨#[45]⟩ : ByteArray)] ?_; (with_reducible refine (strings_Join.calls _ _ x3_5 (⟨#[45]⟩ : ByteArray) t220 _ ?side1 ?side2 A51.out).mono ?_); (case side1 => repeat (first | exact (Kd.R_reads' HO_3.out).2.2 | (with_reducible refine Kd.C_alloc ?_ _) | (with_reducible refine Kd.C_drewN ?_ _) | (with_reducible refine Kd.C_drew ?_))); (case side2 => exact (Kd.R_reads' HO_3.out).2.1); rintro e w53 ⟨rfl, hb⟩; refine ⟨_, rfl, ?_⟩; replace HO_3 := Aside0.mk (Kd.R_below (ra_ HO_3) hb); replace BK195 := Aside0.mk (blk_below (g := gb195) (o := .cells #[.string a0_0, .string a0_1, .string a0_2, .slice A0_3 l0_3.length c0_3, .slice A0_4 l0_4.length c0_4] 25 (0, 0)) (bk_ BK195) hb); replace HB := Aside0.mk (below_step (by repeat (first | (with_reducible first | exact HB.out | apply below_alloc | apply pw_below_drewN | apply below_drew1 | refine below_set ?_ GE195.out) | exact HB.out)) hb); try clear hb))
             go_ret
             exact ⟨by first | rfl | (simp [errW_none, errW_some] <;> rfl) | (simp [*, errW_none, errW_some] <;> rfl), by repeat (first | (with_reducible first | exact HB.out | apply below_alloc | apply pw_below_drewN | apply below_drew1 | refine below_set ?_ GE195.out) | exact HB.out)⟩
       ·rw [if_neg c25] at H
        exact absurd H (by simp)
end Go.Proofs.YtphjhbppjakocaaGreatDoor.PTag
