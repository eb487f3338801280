/- Several texts of this claim in one: Skip,Brief,Brief2,Five; conditions: those that each theorem states. -/
import Derived.Test.YtphjhbppjakocaaGreatDoorWTab
import Derived.Test.YtphjhbppjakocaaGreatDoorWMore
import Derived.KernelRfl
import Derived.Tactics
namespace Go.Proofs.YtphjhbppjakocaaGreatDoorW.PrintLast
open Go.RowKit Go.Proofs.YtphjhbppjakocaaGreatDoorW.PrintWords
def bm (n m : Nat) : Array Bool := ((List.range n).map m.testBit).toArray
def bmp (n i : Nat) : Array Bool := bm n (2 ^ i - 1)
section
variable {P : Program} {md : Region.Mode} {ops : Array Oper} {Q : Exit → Act → World → Prop} {S : World → Prop} {ds : List Nat} {T : Bool × List (List Nat × List Nat)} {B : List Nat}
theorem pu_ {n i j fuel : Nat} {oi : Oper} {N : Option Tmp} {v : Value} {a a' : Act} {w : World} (hT : Aside0 (rtab md ops = T)) (h : wpAnyLast P md ops Q S ds fuel (bmp n j) a' w) (hi : ops[i]? = some oi := by rfl) (hw : Region.wanted oi (yielded ops a.tmps) = true := by rfl) (hN : oi.dst = N := by ((conv => lhs; whnf); try rfl))
    (hy : ∀ w', (execOp a.eval oi).run P w' = .ok (.value v) w' := by (intro w'; go_simp; with_reducible rfl)) (hc : anyT T (bmp n i).toList (bmp n (i + 1)).toList i = true := by kernel_rfl)
    (hQ : ∀ c a w, Q (.panic c) (a.put oi.dst v) w → Q (.panic c) a w := by exact fun _ _ _ h => h) (hj : i + 1 = j := by (simp only [Nat.reduceAdd]; rfl))
    (ha : a.put N v = a' := by (simp only [Act.put, List.setIfInBounds_toArray, List.set_cons_zero, List.set_cons_succ, i64_w, i32_w]; rfl))
    : wpAnyLast P md ops Q S ds (fuel + 1) (bmp n i) a w := by
  subst hj
  exact pure_ (bmp n (i + 1)) hi hN (any_of hT.out hc) hQ (.inl ⟨hw, hy⟩) ha h
theorem tk_ {n i j fuel : Nat} {oi : Oper} {N : Option Tmp} {v : Value} {a a' : Act} {w : World} (hT : Aside0 (rtab md ops = T)) (hB : Aside0 (waitsOk T.2 B = true)) (hS : S w) (h : wpAnyLast P md ops Q S ds fuel (bmp n j) a' w) (hi : ops[i]? = some oi := by rfl) (hw : Region.wanted oi (yielded ops a.tmps) = true := by rfl) (hN : oi.dst = N := by ((conv => lhs; whnf); try rfl))
    (hy : ∀ w', S w' → (execOp a.eval oi).run P w' = .ok (.value v) w' := by (intro w' hs_; (repeat (obtain ⟨_, hs_⟩ := hs_)); go_simp; with_reducible rfl)) (hc : takeW T B ds (bmp n i).toList (bmp n (i + 1)).toList i = true := by kernel_rfl)
    (hQ : ∀ c a w, Q (.panic c) (a.put oi.dst v) w → Q (.panic c) a w := by exact fun _ _ _ h => h) (hj : i + 1 = j := by (simp only [Nat.reduceAdd]; rfl))
    (ha : a.put N v = a' := by (simp only [Act.put, List.setIfInBounds_toArray, List.set_cons_zero, List.set_cons_succ, i64_w, i32_w]; rfl))
    : wpAnyLast P md ops Q S ds (fuel + 1) (bmp n i) a w := by
  subst hj
  exact take_ (bmp n (i + 1)) hi hN (take_ofW hT.out hB.out hc) hQ (.inl ⟨hw, hy⟩) hS ha h
theorem sk_ {n i j fuel : Nat} {oi : Oper} {N : Option Tmp} {a a' : Act} {w : World} (hT : Aside0 (rtab md ops = T)) (h : wpAnyLast P md ops Q S ds fuel (bmp n j) a' w) (hi : ops[i]? = some oi := by rfl) (hw : Region.wanted oi (yielded ops a.tmps) = false := by rfl) (hN : oi.dst = N := by ((conv => lhs; whnf); try rfl))
    (hc : anyT T (bmp n i).toList (bmp n (i + 1)).toList i = true := by kernel_rfl)
    (hQ : ∀ c a w, Q (.panic c) (a.put oi.dst undef) w → Q (.panic c) a w := by exact fun _ _ _ h => h) (hj : i + 1 = j := by (simp only [Nat.reduceAdd]; rfl))
    (ha : a.put N undef = a' := by (simp only [Act.put, List.setIfInBounds_toArray, List.set_cons_zero, List.set_cons_succ, i64_w, i32_w]; rfl))
    : wpAnyLast P md ops Q S ds (fuel + 1) (bmp n i) a w := by
  subst hj
  exact pure_ (bmp n (i + 1)) hi hN (any_of hT.out hc) hQ (.inr ⟨hw, rfl⟩) ha h
theorem nm_ {fuel : Nat} {l : Array Bool} {a a' : Act} {N : Option Tmp} {v : Value} {w : World} (h : wpAnyLast P md ops Q S ds fuel l a' w) (ha : a.put N v = a' := by (simp only [Act.put, List.setIfInBounds_toArray, List.set_cons_zero, List.set_cons_succ, i64_w, i32_w]; rfl)) : wpAnyLast P md ops Q S ds fuel l (a.put N v) w := norm_ ha h
end
end Go.Proofs.YtphjhbppjakocaaGreatDoorW.PrintLast
namespace Go.Proofs.YtphjhbppjakocaaGreatDoor.PTag
open Go.RowKit Go.Proofs.YtphjhbppjakocaaGreatDoorW.PrintWords Go.Proofs.YtphjhbppjakocaaGreatDoorW.PrintLast
theorem hb_ {n : Nat} {w W : World} (h : Below n w W := by repeat (first | (with_reducible first | exact HB.out | apply below_alloc | apply pw_below_drewN | apply below_drew1) | exact HB.out)) : Below n w W := h
theorem hz_ {w W : World} (h : Below w.heap.size w W := by repeat (first | (with_reducible first | exact HB.out | apply below_alloc | apply pw_below_drewN | apply below_drew1) | exact HB.out)) : w.heap.size ≤ W.heap.size := below_size h
theorem gb_ {P : Program} {ops : Array Oper} {Q : Exit → Act → World → Prop} {rest : List Oper} {oi : Oper} {a : Act} {w : World} (N : Option Tmp) {f : FuncId} {fn : Func} {as : Array Operand} {ts : Array TypeId} (hf : P.funcs[f]? = some fn) (args : Array Value)
    (h : Calls P f args w fun e w' => ∃ v, e = .returned v ∧ wpList P ops Q rest (a.put N v) w')
    (hd : oi.dst = N := by rfl) (hg : oi.guard = none := by rfl) (hname : (fn.name == "runtime.NumGoroutine") = false := by kernel_rfl) (hb : fn.body.isSome = true := by rfl)
    (hop : oi.op = .call { callee := .value (.func f), args := as, argTypes := ts } := by rfl)
    (hargs : as.map a.eval = args := by (try simp only [List.map_toArray, List.map_cons, List.map_nil]); first | done | rfl | (simp only [List.length_drop, List.length_take]; rfl)) : wpList P ops Q (oi :: rest) a w := goesL_ N hd hg hf hname hb args hop hargs h
def Gro (w0 W : World) : Prop := (∀ (g : Nat) (o : Obj), w0.heap[g]? = some o → W.heap[g]? = some o) ∧ (∀ (α : Type) (d : Kd α) (e base : Nat) (ok : Nat → Prop) (v : Value) (xs : List α), d.R e w0 base ok v xs → d.R e W base ok v xs) ∧ (∀ (α : Type) (d : Kd α) (e base : Nat) (ok : Nat → Prop) (v : Value) (xs : List α), d.V e w0 base ok v xs → d.V e W base ok v xs)
theorem Gro.refl (w : World) : Gro w w := ⟨fun _ _ h => h, fun _ _ _ _ _ _ _ h => h, fun _ _ _ _ _ _ _ h => h⟩
theorem Gro.alloc {w0 W : World} (h : Gro w0 W) (o : Obj) : Gro w0 (W.alloc o) := ⟨fun g x k => blk_alloc (h.1 g x k) o, fun _ _ _ _ _ _ _ k => Kd.R_alloc (h.2.1 _ _ _ _ _ _ _ k) o, fun _ _ _ _ _ _ _ k => Kd.V_alloc (h.2.2 _ _ _ _ _ _ _ k) o⟩
theorem Gro.drewN {w0 W : World} (h : Gro w0 W) (m : Nat) : Gro w0 (W.drewN m) := ⟨fun g x k => blk_drewN (h.1 g x k) m, fun _ _ _ _ _ _ _ k => Kd.R_drewN (h.2.1 _ _ _ _ _ _ _ k) m, fun _ _ _ _ _ _ _ k => Kd.V_drewN (h.2.2 _ _ _ _ _ _ _ k) m⟩
theorem Gro.drew {w0 W : World} (h : Gro w0 W) : Gro w0 W.drew := ⟨fun g x k => blk_drew (h.1 g x k), fun _ _ _ _ _ _ _ k => Kd.R_drew (h.2.1 _ _ _ _ _ _ _ k), fun _ _ _ _ _ _ _ k => Kd.V_drew (h.2.2 _ _ _ _ _ _ _ k)⟩
theorem bk_ {w0 W : World} {g : Nat} {o : Obj} (h0 : Aside0 (w0.heap[g]? = some o)) (h : Gro w0 W := by (with_reducible repeat (first | apply Gro.alloc | apply Gro.drewN | apply Gro.drew)); exact Gro.refl _) : W.heap[g]? = some o := h.1 g o h0.out
theorem ra_ {w0 W : World} {α : Type} {d : Kd α} {e base : Nat} {ok : Nat → Prop} {v : Value} {xs : List α} (h0 : Aside0 (d.R e w0 base ok v xs)) (h : Gro w0 W := by (with_reducible repeat (first | apply Gro.alloc | apply Gro.drewN | apply Gro.drew)); exact Gro.refl _) : d.R e W base ok v xs := h.2.1 _ _ _ _ _ _ _ h0.out
end Go.Proofs.YtphjhbppjakocaaGreatDoor.PTag
namespace Go.Proofs.YtphjhbppjakocaaGreatDoor.PTag
open Go.RowKit Go.Proofs.YtphjhbppjakocaaGreatDoorW.PrintWords Go.Proofs.YtphjhbppjakocaaGreatDoorW.PrintLast
abbrev S5 (g : Nat) (a b c d e : Value) (w : World) : Prop := w.cell? ⟨g, 0, none⟩ = some a ∧ w.cell? ⟨g, 1, none⟩ = some b ∧ w.cell? ⟨g, 2, none⟩ = some c ∧ w.cell? ⟨g, 3, none⟩ = some d ∧ w.cell? ⟨g, 4, none⟩ = some e
theorem s5_ {w : World} {g : Nat} {t : TypeId} {a b c d e : Value} (h : Aside0 (w.heap[g]? = some (.cells #[a, b, c, d, e] t (0, 0)))) : S5 g a b c d e w :=
  ⟨(blk_cell h.out 0).trans rfl, (blk_cell h.out 1).trans rfl, (blk_cell h.out 2).trans rfl, (blk_cell h.out 3).trans rfl, (blk_cell h.out 4).trans rfl⟩
section
variable {P : Program} {md : Region.Mode} {ops : Array Oper} {Q : Exit → Act → World → Prop} {S : World → Prop} {ds : List Nat} {T : Bool × List (List Nat × List Nat)} {B : List Nat}
theorem st5_ {id : Nat} {a : Act} {w : World} {g : Nat} {t : TypeId} {v0 v1 v2 v3 v4 : Value} (n : Nat) (hT : rtab .any ops = T) (hB : waitsOk T.2 B = true) (hb : Aside0 (w.drew.heap[g]? = some (.cells #[v0, v1, v2, v3, v4] t (0, 0))))
    (h : S5 g v0 v1 v2 v3 v4 w.drew → Aside0 (rtab .any ops = T) → Aside0 (waitsOk T.2 B = true) → wpAnyLast P .any ops Q (S5 g v0 v1 v2 v3 v4) [] n (bmp n 0) a w.drew) (hm : P.follows .mixedOrders = true := by kernel_rfl) (hn : ops.size = n := by rfl) (hl : Array.replicate n false = bmp n 0 := by rfl) : (Code.region id ops true).wp P Q a w :=
  start_ (bmp n 0) hm hn hl (s5_ hb) (fun hH => h hH ⟨hT⟩ ⟨hB⟩)
theorem pg_ {fuel : Nat} (i : Nat) {l : Array Bool} (l' : Array Bool) {oi : Oper} {N : Option Tmp} {v : Value} {a a' : Act} {w : World} (hT : Aside0 (rtab md ops = T)) (h : wpAnyLast P md ops Q S ds fuel l' a' w) (hi : ops[i]? = some oi := by rfl) (hw : Region.wanted oi (yielded ops a.tmps) = true := by rfl) (hN : oi.dst = N := by ((conv => lhs; whnf); try rfl))
    (hy : ∀ w', (execOp a.eval oi).run P w' = .ok (.value v) w' := by (intro w'; go_simp; with_reducible rfl)) (hc : anyT T l.toList l'.toList i = true := by kernel_rfl)
    (hQ : ∀ c a w, Q (.panic c) (a.put oi.dst v) w → Q (.panic c) a w := by exact fun _ _ _ h => h)
    (ha : a.put N v = a' := by (simp only [Act.put, List.setIfInBounds_toArray, List.set_cons_zero, List.set_cons_succ, i64_w, i32_w]; rfl)) : wpAnyLast P md ops Q S ds (fuel + 1) l a w :=
  pure_ l' hi hN (any_of hT.out hc) hQ (.inl ⟨hw, hy⟩) ha h
theorem tg_ {fuel : Nat} (i : Nat) {l : Array Bool} (l' : Array Bool) {oi : Oper} {N : Option Tmp} {v : Value} {a a' : Act} {w : World} (hT : Aside0 (rtab md ops = T)) (hB : Aside0 (waitsOk T.2 B = true)) (hS : S w) (h : wpAnyLast P md ops Q S ds fuel l' a' w) (hi : ops[i]? = some oi := by rfl) (hw : Region.wanted oi (yielded ops a.tmps) = true := by rfl) (hN : oi.dst = N := by ((conv => lhs; whnf); try rfl))
    (hy : ∀ w', S w' → (execOp a.eval oi).run P w' = .ok (.value v) w' := by (intro w' hs_; (repeat (obtain ⟨_, hs_⟩ := hs_)); go_simp; with_reducible rfl)) (hc : takeW T B ds l.toList l'.toList i = true := by kernel_rfl)
    (hQ : ∀ c a w, Q (.panic c) (a.put oi.dst v) w → Q (.panic c) a w := by exact fun _ _ _ h => h)
    (ha : a.put N v = a' := by (simp only [Act.put, List.setIfInBounds_toArray, List.set_cons_zero, List.set_cons_succ, i64_w, i32_w]; rfl)) : wpAnyLast P md ops Q S ds (fuel + 1) l a w :=
  take_ l' hi hN (take_ofW hT.out hB.out hc) hQ (.inl ⟨hw, hy⟩) hS ha h
theorem cg_ {fuel : Nat} (i : Nat) {l : Array Bool} (l' : Array Bool) (N : Option Tmp) {oi : Oper} {f : FuncId} {fn : Func} {as : Array Operand} {ts : Array TypeId} {a : Act} {w : World} (hf : P.funcs[f]? = some fn) (args : Array Value) (hT : Aside0 (rtab md ops = T))
    (h : Calls P f args w fun e w' => ∃ v, e = .returned v ∧ S w' ∧ (S w' → wpAnyLast P md ops Q S ds fuel l' (a.put N v) w')) (hi : ops[i]? = some oi := by rfl) (hN : oi.dst = N := by rfl) (hc : (readyT T.2 l.toList == [i] && l.toList.set i true == l'.toList) = true := by kernel_rfl) (hd : i ∉ ds := by decide)
    (hname : (fn.name == "runtime.NumGoroutine") = false := by kernel_rfl) (hb : fn.body.isSome = true := by rfl) (hw : Region.wanted oi (yielded ops a.tmps) = true := by rfl) (hop : oi.op = .call { callee := .value (.func f), args := as, argTypes := ts } := by rfl)
    (hargs : as.map a.eval = args := by (try simp only [List.map_toArray, List.map_cons, List.map_nil]); first | done | rfl | (simp only [List.length_drop, List.length_take]; rfl)) : wpAnyLast P md ops Q S ds (fuel + 1) l a w :=
  one_ l' hi hN (one_of hT.out hc) hd (fun K hK => goes_ hf hname hb args hw hN hop hargs (h.mono fun e w' ⟨v, he, hS, hk⟩ => ⟨v, he, hK.out _ _ hS hk⟩))
theorem dg_ {l : Array Bool} {n : Nat} {a : Act} {w : World} (hT : Aside0 (rtab md ops = T)) (h : Q .normal a w) (hc : (readyT T.2 l.toList == []) = true := by kernel_rfl) : wpAnyLast P md ops Q S ds n l a w := done_ (done_of hT.out hc) h
end
theorem bx_ {P : Program} {ops : Array Oper} {o : Oper} {a : Act} {Q : Exit → Act → World → Prop} {rest : List Oper} {W : World} (N : Tmp) (cs : Array Value) (t : TypeId)
    (h : ∀ g, g = W.heap.size → ∀ w1, w1.heap[g]? = some (.cells cs t (0, 0)) → Below W.heap.size W w1 → wpList P ops Q rest (a.put o.dst (.pointer (some ⟨g, 0, none⟩))) w1)
    (hd : o.dst = some N := by with_reducible rfl) (hg : o.guard = none := by rfl) (hrun : (execOp a.eval o).run P W = .ok (.value (.pointer (some ⟨W.heap.size, 0, none⟩))) (W.alloc (.cells cs t (0, 0))) := by first | (go_simp; done) | (go_simp; rfl)) : wpList P ops Q (o :: rest) a W :=
  box_event hg hd hrun h
end Go.Proofs.YtphjhbppjakocaaGreatDoor.PTag
namespace Go.Proofs.YtphjhbppjakocaaGreatDoor.PTag
open Go.RowKit Go.Proofs.YtphjhbppjakocaaGreatDoorW.PrintWords Go.Proofs.YtphjhbppjakocaaGreatDoorW.PrintLast
theorem c5_ {w : World} {g : Nat} {t : TypeId} {a b c d e : Value} (h : Aside0 (w.heap[g]? = some (.cells #[a, b, c, d, e] t (0, 0)))) :
    w.cell? ⟨g, 0, none⟩ = some a ∧ w.cell? ⟨g, 1, none⟩ = some b ∧ w.cell? ⟨g, 2, none⟩ = some c ∧ w.cell? ⟨g, 3, none⟩ = some d ∧ w.cell? ⟨g, 4, none⟩ = some e ∧
      w.frozen? ⟨g, 0, none⟩ = false ∧ w.frozen? ⟨g, 1, none⟩ = false ∧ w.frozen? ⟨g, 2, none⟩ = false ∧ w.frozen? ⟨g, 3, none⟩ = false ∧ w.frozen? ⟨g, 4, none⟩ = false :=
  ⟨(blk_cell h.out 0).trans rfl, (blk_cell h.out 1).trans rfl, (blk_cell h.out 2).trans rfl, (blk_cell h.out 3).trans rfl, (blk_cell h.out 4).trans rfl, blk_frozen h.out 0, blk_frozen h.out 1, blk_frozen h.out 2, blk_frozen h.out 3, blk_frozen h.out 4⟩
end Go.Proofs.YtphjhbppjakocaaGreatDoor.PTag
