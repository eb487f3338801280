/- The document's wakefulness check tells yes; conditions: none. -/
import Derived.Test.YtalojokihccboaaLiJoin
import Derived.Test.YtalojokihccboaaPListsx6
namespace Go.Proofs.Ytalojokihccboaa.Pl
open Go.RowKit Go.Proofs.YtalojokihccboaaW.PrintWords Go.Proofs.Ytalojokihccboaa.PLists Pat
theorem toList_loop (b : ByteArray) : ∀ (m i : Nat) (r : List UInt8), b.size - i = m → ByteArray.toList.loop b i r = r.reverse ++ b.data.toList.drop i := by
  intro m
  induction m with
  | zero =>
    intro i r h
    have : b.data.size = b.size := rfl
    rw [ByteArray.toList.loop, if_neg (by omega), List.drop_of_length_le (by simp; omega), List.append_nil]
  | succ m ih =>
    intro i r h
    have hs : b.data.size = b.size := rfl
    have hi : i < b.data.toList.length := by simp; omega
    rw [ByteArray.toList.loop, if_pos (by omega), ih (i + 1) _ (by omega), List.drop_eq_getElem_cons hi]
    simp only [List.reverse_cons, List.append_assoc, List.singleton_append]
    congr 2
    have hj : i < b.data.size := by omega
    simp only [ByteArray.get!, Array.getElem_toList, Array.getElem!_eq_getD, Array.getD, dif_pos hj]
    rfl
theorem toList_data (b : ByteArray) : b.toList = b.data.toList := by
  unfold ByteArray.toList
  rw [toList_loop b _ 0 [] rfl]; rfl
theorem awake_jn : jn ⟨#[123, 48, 125, 43, 123, 49, 125]⟩ ⟨#[123, 48, 125, 44, 123, 49, 125]⟩ ⟨#[123, 48, 125, 44, 123, 49, 125]⟩ ⟨#[123, 48, 125, 59, 123, 49, 125]⟩ [⟨#[97]⟩, ⟨#[98]⟩, ⟨#[99]⟩] = (⟨#[97, 44, 98, 59, 99]⟩, 0) := by
  decide
theorem awake_f : Ev (fun k => idiomlaw13_awake.f k) true := by
  unfold idiomlaw13_awake.f
  refine Ev.bind Join_f ?_
  rw [awake_jn]
  have e : (⟨#[97, 44, 98, 59, 99]⟩ : ByteArray).toList = [97, 44, 98, 59, 99] := by rw [toList_data]
  simp only [e, if_true]
  exact Ev.now _
end Go.Proofs.Ytalojokihccboaa.Pl
