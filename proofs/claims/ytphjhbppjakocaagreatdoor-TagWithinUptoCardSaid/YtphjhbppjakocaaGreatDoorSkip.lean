/- Steps of a region in the order of the text, one lemma a kind of step, their side conditions found by themselves; short names for proofs that printed texts repeat; conditions: as stated. -/
import Derived.Test.YtphjhbppjakocaaGreatDoorWTab
import Derived.Test.YtphjhbppjakocaaGreatDoorWMore
import Derived.KernelRfl
import Derived.Tactics
namespace Go.Proofs.YtphjhbppjakocaaGreatDoorW.PrintLast
open Go.RowKit Go.Proofs.YtphjhbppjakocaaGreatDoorW.PrintWords
def bm (n m : Nat) : Array Bool := ((List.range n).map m.testBit).toArray
def bmp (n i : Nat) : Array Bool := bm n (2 ^ i - 1)
section
variable {P : Program} {md : Region.Mode} {ops : Array Oper} {Q : Exit → Act → World → Prop} {S : World → Prop} {ds : List Nat} {T : Bool × List (List Nat × List Nat)} {B : List Nat}
theorem pu_ {n i j fuel : Nat} {oi : Oper} {N : Option Tmp} {v : Value} {a a' : Act} {w : World} (hT : Aside0 (rtab md ops = T)) (h : wpAnyLast P md ops Q S ds fuel (bmp n j) a' w) (hi : ops[i]? = some oi := by rfl) (hw : Region.wanted oi (yielded ops a.tmps) = true := by rfl) (hN : oi.dst = N := by ((conv => lhs; whnf); try rfl))
    (hy : ∀ w', (execOp a.eval oi).run P w' = .ok (.value v) w' := by (intro w'; go_simp; with_reducible rfl)) (hc : anyT T (bmp n i).toList (bmp n (i + 1)).toList i = true := by kernel_rfl)
    (hQ : ∀ c a w, Q (.panic c) (a.put oi.dst v) w → Q (.panic c) a w := by exact fun _ _ _ h => h) (hj : i + 1 = j := by (simp only [Nat.reduceAdd]; rfl))
    (ha : a.put N v = a' := by (simp only [Act.put, List.setIfInBounds_toArray, List.set_cons_zero, List.set_cons_succ, i64_w, i32_w]; rfl))
    : wpAnyLast P md ops Q S ds (fuel + 1) (bmp n i) a w := by
  subst hj
  exact pure_ (bmp n (i + 1)) hi hN (any_of hT.out hc) hQ (.inl ⟨hw, hy⟩) ha h
theorem tk_ {n i j fuel : Nat} {oi : Oper} {N : Option Tmp} {v : Value} {a a' : Act} {w : World} (hT : Aside0 (rtab md ops = T)) (hB : Aside0 (waitsOk T.2 B = true)) (hS : S w) (h : wpAnyLast P md ops Q S ds fuel (bmp n j) a' w) (hi : ops[i]? = some oi := by rfl) (hw : Region.wanted oi (yielded ops a.tmps) = true := by rfl) (hN : oi.dst = N := by ((conv => lhs; whnf); try rfl))
    (hy : ∀ w', S w' → (execOp a.eval oi).run P w' = .ok (.value v) w' := by (intro w' hs_; (repeat (obtain ⟨_, hs_⟩ := hs_)); go_simp; with_reducible rfl)) (hc : takeW T B ds (bmp n i).toList (bmp n (i + 1)).toList i = true := by kernel_rfl)
    (hQ : ∀ c a w, Q (.panic c) (a.put oi.dst v) w → Q (.panic c) a w := by exact fun _ _ _ h => h) (hj : i + 1 = j := by (simp only [Nat.reduceAdd]; rfl))
    (ha : a.put N v = a' := by (simp only [Act.put, List.setIfInBounds_toArray, List.set_cons_zero, List.set_cons_succ, i64_w, i32_w]; rfl))
    : wpAnyLast P md ops Q S ds (fuel + 1) (bmp n i) a w := by
  subst hj
  exact take_ (bmp n (i + 1)) hi hN (take_ofW hT.out hB.out hc) hQ (.inl ⟨hw, hy⟩) hS ha h
theorem sk_ {n i j fuel : Nat} {oi : Oper} {N : Option Tmp} {a a' : Act} {w : World} (hT : Aside0 (rtab md ops = T)) (h : wpAnyLast P md ops Q S ds fuel (bmp n j) a' w) (hi : ops[i]? = some oi := by rfl) (hw : Region.wanted oi (yielded ops a.tmps) = false := by rfl) (hN : oi.dst = N := by ((conv => lhs; whnf); try rfl))
    (hc : anyT T (bmp n i).toList (bmp n (i + 1)).toList i = true := by kernel_rfl)
    (hQ : ∀ c a w, Q (.panic c) (a.put oi.dst undef) w → Q (.panic c) a w := by exact fun _ _ _ h => h) (hj : i + 1 = j := by (simp only [Nat.reduceAdd]; rfl))
    (ha : a.put N undef = a' := by (simp only [Act.put, List.setIfInBounds_toArray, List.set_cons_zero, List.set_cons_succ, i64_w, i32_w]; rfl))
    : wpAnyLast P md ops Q S ds (fuel + 1) (bmp n i) a w := by
  subst hj
  exact pure_ (bmp n (i + 1)) hi hN (any_of hT.out hc) hQ (.inr ⟨hw, rfl⟩) ha h
end
end Go.Proofs.YtphjhbppjakocaaGreatDoorW.PrintLast
