/- The law TagOwn in plain: what both Chains, Print and Same tell of one tag; conditions: texts of at most 1048576 bytes, rows of at most 1048576 places. -/
import Derived.Test.YtphjhbppjakocaaGreatDoorCn1
namespace Go.Proofs.YtphjhbppjakocaaGreatDoor.Pl
open Go.RowKit Go.Proofs.YtphjhbppjakocaaGreatDoorW.PrintWords Go.Proofs.YtphjhbppjakocaaGreatDoor.PTag
set_option linter.unusedVariables false
theorem TagOwn {t : Tg} (z : SzT t) (lp : List Pr) : ∃ (k : Nat) (r : List S25) (e : Int) (p : ByteArray × Int), tag_Chain.f k t.1 t.2.1 t.2.2.1 t.2.2.2.1 t.2.2.2.2 lp = some (r, e) ∧ i7_Chain.f k t.1 t.2.1 t.2.2.1 t.2.2.2.1 t.2.2.2.2 lp = some (r, e) ∧ l7_same.f k r r = some true ∧ l7_awake.f k = some true ∧ tag_Print.f k t.1 t.2.1 t.2.2.1 t.2.2.2.1 t.2.2.2.2 = some p ∧ i7_Same.f k t.1 t.2.1 t.2.2.1 t.2.2.2.1 t.2.2.2.2 t.1 t.2.1 t.2.2.1 t.2.2.2.1 t.2.2.2.2 = some true := by
  obtain ⟨r, ⟨k1, h1⟩, ⟨k2, h2⟩, h3, h4⟩ := both z lp
  obtain ⟨k3, h3⟩ := sameS_f r.1 h3 h4
  obtain ⟨k4, h4⟩ := awake_f1
  obtain ⟨k5, h5⟩ := print_f z
  have h6 := same_g t.1 t.2.1 t.2.2.1 t.2.2.2.1 t.2.2.2.2 t.1 t.2.1 t.2.2.1 t.2.2.2.1 t.2.2.2.2 z.nV z.nK
  rw [decide_eq_true ⟨rfl, rfl, rfl, rfl, rfl⟩] at h6
  obtain ⟨k6, h6⟩ := h6
  exact ⟨k1 + k2 + k3 + k4 + k5 + k6, r.1.map toS, r.2, _, h1 _ (by omega), h2 _ (by omega), h3 _ (by omega), h4 _ (by omega), h5 _ (by omega), h6 _ (by omega)⟩
end Go.Proofs.YtphjhbppjakocaaGreatDoor.Pl
