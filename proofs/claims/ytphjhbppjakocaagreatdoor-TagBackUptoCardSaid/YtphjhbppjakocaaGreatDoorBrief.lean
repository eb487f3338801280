/- Short words for steps that the printed texts repeat: lemmas whose last arguments are found by a tactic; conditions: those that each theorem states. -/
import Derived.Test.YtphjhbppjakocaaGreatDoorSkip
namespace Go.Proofs.YtphjhbppjakocaaGreatDoor.PTag
open Go.RowKit Go.Proofs.YtphjhbppjakocaaGreatDoorW.PrintWords Go.Proofs.YtphjhbppjakocaaGreatDoorW.PrintLast
theorem hb_ {n : Nat} {w W : World} (h : Below n w W := by repeat (first | (with_reducible first | exact HB.out | apply below_alloc | apply pw_below_drewN | apply below_drew1) | exact HB.out)) : Below n w W := h
theorem hz_ {w W : World} (h : Below w.heap.size w W := by repeat (first | (with_reducible first | exact HB.out | apply below_alloc | apply pw_below_drewN | apply below_drew1) | exact HB.out)) : w.heap.size ≤ W.heap.size := below_size h
theorem gb_ {P : Program} {ops : Array Oper} {Q : Exit → Act → World → Prop} {rest : List Oper} {oi : Oper} {a : Act} {w : World} (N : Option Tmp) {f : FuncId} {fn : Func} {as : Array Operand} {ts : Array TypeId} (hf : P.funcs[f]? = some fn) (args : Array Value)
    (h : Calls P f args w fun e w' => ∃ v, e = .returned v ∧ wpList P ops Q rest (a.put N v) w')
    (hd : oi.dst = N := by rfl) (hg : oi.guard = none := by rfl) (hname : (fn.name == "runtime.NumGoroutine") = false := by kernel_rfl) (hb : fn.body.isSome = true := by rfl)
    (hop : oi.op = .call { callee := .value (.func f), args := as, argTypes := ts } := by rfl)
    (hargs : as.map a.eval = args := by (try simp only [List.map_toArray, List.map_cons, List.map_nil]); first | done | rfl | (simp only [List.length_drop, List.length_take]; rfl)) : wpList P ops Q (oi :: rest) a w := goesL_ N hd hg hf hname hb args hop hargs h
def Gro (w0 W : World) : Prop := (∀ (g : Nat) (o : Obj), w0.heap[g]? = some o → W.heap[g]? = some o) ∧ (∀ (α : Type) (d : Kd α) (e base : Nat) (ok : Nat → Prop) (v : Value) (xs : List α), d.R e w0 base ok v xs → d.R e W base ok v xs) ∧ (∀ (α : Type) (d : Kd α) (e base : Nat) (ok : Nat → Prop) (v : Value) (xs : List α), d.V e w0 base ok v xs → d.V e W base ok v xs)
theorem Gro.refl (w : World) : Gro w w := ⟨fun _ _ h => h, fun _ _ _ _ _ _ _ h => h, fun _ _ _ _ _ _ _ h => h⟩
theorem Gro.alloc {w0 W : World} (h : Gro w0 W) (o : Obj) : Gro w0 (W.alloc o) := ⟨fun g x k => blk_alloc (h.1 g x k) o, fun _ _ _ _ _ _ _ k => Kd.R_alloc (h.2.1 _ _ _ _ _ _ _ k) o, fun _ _ _ _ _ _ _ k => Kd.V_alloc (h.2.2 _ _ _ _ _ _ _ k) o⟩
theorem Gro.drewN {w0 W : World} (h : Gro w0 W) (m : Nat) : Gro w0 (W.drewN m) := ⟨fun g x k => blk_drewN (h.1 g x k) m, fun _ _ _ _ _ _ _ k => Kd.R_drewN (h.2.1 _ _ _ _ _ _ _ k) m, fun _ _ _ _ _ _ _ k => Kd.V_drewN (h.2.2 _ _ _ _ _ _ _ k) m⟩
theorem Gro.drew {w0 W : World} (h : Gro w0 W) : Gro w0 W.drew := ⟨fun g x k => blk_drew (h.1 g x k), fun _ _ _ _ _ _ _ k => Kd.R_drew (h.2.1 _ _ _ _ _ _ _ k), fun _ _ _ _ _ _ _ k => Kd.V_drew (h.2.2 _ _ _ _ _ _ _ k)⟩
theorem bk_ {w0 W : World} {g : Nat} {o : Obj} (h0 : Aside0 (w0.heap[g]? = some o)) (h : Gro w0 W := by (with_reducible repeat (first | apply Gro.alloc | apply Gro.drewN | apply Gro.drew)); exact Gro.refl _) : W.heap[g]? = some o := h.1 g o h0.out
theorem ra_ {w0 W : World} {α : Type} {d : Kd α} {e base : Nat} {ok : Nat → Prop} {v : Value} {xs : List α} (h0 : Aside0 (d.R e w0 base ok v xs)) (h : Gro w0 W := by (with_reducible repeat (first | apply Gro.alloc | apply Gro.drewN | apply Gro.drew)); exact Gro.refl _) : d.R e W base ok v xs := h.2.1 _ _ _ _ _ _ _ h0.out
end Go.Proofs.YtphjhbppjakocaaGreatDoor.PTag
