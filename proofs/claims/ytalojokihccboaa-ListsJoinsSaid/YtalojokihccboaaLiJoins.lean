/- The law ListsJoins, printed, tells yes; conditions: a list that the machine can hold. -/
import Derived.Test.YtalojokihccboaaLiAwake
import Derived.Test.YtalojokihccboaaPListsx9
namespace Go.Proofs.Ytalojokihccboaa.Pl
open Go.RowKit Go.Proofs.YtalojokihccboaaW.PrintWords Go.Proofs.Ytalojokihccboaa.PLists Pat
theorem joins_l {l : List ByteArray} (hl : l.length < 8796093022208) (x : ByteArray) (e : Int) : ∀ (m i : Nat), l.length - i = m → i ≤ l.length → Ev (fun k => idiomlaw13_ListsJoins.l0 k l l x e x e (i : Int)) true := by
  intro m
  induction m with
  | zero =>
    intro i hm hi
    refine Ev.step (f := fun k => (idiomlaw13_awake.f k).bind fun t197 => some t197) (fun k => ?_) (Ev.bind awake_f (Ev.now _))
    simp only [idiomlaw13_ListsJoins.l0]
    rw [if_neg (by omega)]
    simp only [if_true]
  | succ m ih =>
    intro i hm hi
    have w1 : wrap64 ((i : Int) + 1) = ((i + 1 : Nat) : Int) := by rw [w64 (by omega)]; omega
    have c0 : (i : Int) < (l.length : Int) := by omega
    have c1 : 0 ≤ (i : Int) := Int.natCast_nonneg _
    refine Ev.step (fun k => ?_) (ih (i + 1) (by omega) (by omega))
    simp only [idiomlaw13_ListsJoins.l0]
    simp only [if_pos c0, if_pos c1, w1, if_true]
theorem joins_true (a b c d : ByteArray) (l : List ByteArray) (hl : l.length < 8796093022208) : Ev (fun k => idiomlaw13_ListsJoins.f k a b c d l) true := by
  unfold idiomlaw13_ListsJoins.f
  have c0 : ([] : List ByteArray).length + l.length < 8796093022208 := by simp only [List.length_nil]; omega
  simp only [Option.bind_some, if_pos c0, List.nil_append]
  refine Ev.bind Join_f ?_
  refine Ev.bind RJoin_f ?_
  exact joins_l hl _ _ _ 0 rfl (by omega)
end Go.Proofs.Ytalojokihccboaa.Pl
