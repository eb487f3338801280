/- The row of the law ListsHolds, in its second form: for every input of the bulk that the given statement allows the law returns true and the arguments read as before. -/
import Derived.Test.YtalojokihccboaaRows
import Derived.Test.YtalojokihccboaaLiHolds
import Derived.Test.YtalojokihccboaaPListsx10
import Derived.Test.YtalojokihccboaaShelf
import Derived.WalkKit
import Derived.ProofKit
import Derived.OpenShut
import Derived.ShutString
import Derived.ChangeOld
import Derived.Below
import Derived.SizedLaws
import Derived.HandedShaped
import Derived.SliceStrings
import Derived.Lib.SmallJoins
import Derived.JoinedCond
namespace Go.Proofs.Ytalojokihccboaa.listsHolds
open Go.ChangeShapes Go.WideShapes Go.ChangeAt Go.RowKit Go.Joins
open Go.ChangeMaps (open_string shut_string)
open Go.Proofs.YtalojokihccboaaW.PrintWords Go.Proofs.Ytalojokihccboaa.PLists
set_option linter.unusedVariables false
theorem own : ownKnob Try.prog.godebug = none := by kernel_rfl
theorem laidOut : laidOutB Try.prog = true := by kernel_rfl
theorem cells23 : Try.prog.cellsOf 23 = 4 := by kernel_rfl
theorem cells9 : Try.prog.cellsOf 9 = 1 := by kernel_rfl
/-- The library's own variable holds some number: what the world's shape gives. -/
theorem tbl {W : World} (h : W.ShapedOpen Try.prog) : Tbl W := Go.Proofs.cell_of_shapedOpen_int (zero := #[.int .i64 0]) (t := 3) h (of_decide_eq_true (by kernel_rfl)) (by kernel_rfl) rfl (by kernel_rfl) (by kernel_rfl) Try.underlying3
set_option maxRecDepth 100000 in
theorem contract (H : Type) (enc : TypeId × Value → H) (W : World) (base : Nat) (args : Array Value) (ds gs : List (DataW H)) (before : List MemPlace)
    (hval : ∀ (j : Nat) t v, Try.f5.params[j]? = some t → args[j]? = some v → Value.okWide Try.prog W .any base t v)
    (hW : DataW.Whole enc Try.prog Try.f5.params.toList Rows.listsHoldsSpec.vars false W args.toList ds gs before) (hsz : (DataW.weightsEach Try.prog (Try.f5.params.toList ++ Rows.listsHoldsSpec.plain.varTypes Try.prog) (ds ++ gs)).all (· ≤ reachBytes) = true) (hsh : W.ShapedOpen Try.prog) :
    Calls Try.prog 5 args W fun e W' => ∃ v, e = .returned v ∧ Rows.listsHoldsSpec.post enc Try.prog Try.f5 false true false false W args v W' := by
  have hW' := hW
  obtain ⟨p, q, hA0, hV, rfl, hfz, hnd⟩ := hW
  have hA : DataW.TrodAll enc Try.prog W 0 (fun _ => true) true Try.f5.params.toList args.toList ds p := hA0
  rw [Try.params5] at hA hval hsz
  obtain ⟨v0, vs0, d0, ds0, p0, q0, hargs, rfl, rfl, h0, r0⟩ := trodAll_cons hA
  obtain ⟨v1, vs1, d1, ds1, p1, q1, rfl, rfl, rfl, h1, r1⟩ := trodAll_cons r0
  obtain ⟨rfl, rfl, rfl⟩ := trodAll_nil r1
  obtain rfl : args = #[v0, v1] := by cases args; simp_all
  obtain ⟨rfl, rfl⟩ := trodVars_none hV
  have k0 := h0
  have lt0 : ∀ x ∈ p0, x.block < W.heap.size := by obtain ⟨m, hm⟩ := k0; exact DataW.trod_lt m _ _ _ hm
  obtain ⟨c0_0, c0_1, c0_2, c0_3, y0_0, y0_1, y0_2, y0_3, n0, rfl, e0, pp0, g0_0, g0_1, g0_2, g0_3⟩ := open_agg4 Try.underlying23 (by kernel_rfl) cells23 (hval 0 23 v0 rfl rfl) h0
  obtain ⟨x0_0, z0_0, _, _⟩ := DataW.trod_string Try.underlying9 g0_0
  obtain rfl : c0_0 = .string x0_0 := by simpa using z0_0
  obtain ⟨x0_1, z0_1, _, _⟩ := DataW.trod_string Try.underlying9 g0_1
  obtain rfl : c0_1 = .string x0_1 := by simpa using z0_1
  obtain ⟨x0_2, z0_2, _, _⟩ := DataW.trod_string Try.underlying9 g0_2
  obtain rfl : c0_2 = .string x0_2 := by simpa using z0_2
  obtain ⟨x0_3, z0_3, _, _⟩ := DataW.trod_string Try.underlying9 g0_3
  obtain rfl : c0_3 = .string x0_3 := by simpa using z0_3
  have k1 := h1
  have lt1 : ∀ x ∈ p1, x.block < W.heap.size := by obtain ⟨m, hm⟩ := k1; exact DataW.trod_lt m _ _ _ hm
  obtain ⟨a1, len1, cap1, rfl⟩ := okWide_slice Try.underlying28 (hval 1 28 v1 rfl rfl)
  obtain ⟨l1, hl1, hR1, hc1, hz1⟩ : ∃ l : List ByteArray, l.length = len1 ∧ Kd.C Kd.string W a1 len1 l ∧ len1 ≤ cap1 ∧ l.length < 8796093022208 := by
    obtain ⟨fuel, hf⟩ := h1
    rcases open_strings Try.underlying28 Try.underlying9 cells9 hf with ⟨hcs, _⟩ | ⟨x, l, c, ss, hcs, _, hl, hm, hss, hx, hcell, _⟩
    · simp [Value.cells] at hcs
      obtain ⟨rfl, rfl, rfl⟩ := hcs
      exact ⟨[], rfl, Kd.C_of_reads (d := ByteArray.empty) (h1 := fun _ => rfl) ⟨rfl, by omega, fun h => absurd h (by omega)⟩, by omega, by simp⟩
    · simp [Value.cells] at hcs
      obtain ⟨rfl, rfl, rfl⟩ := hcs
      rw [if_pos rfl] at hss
      have hd := congrArg Prod.fst hx
      simp only at hd
      have hw := sized_slice hsz (j := 1) (t := 28) (e := 9) rfl (congrArg some hd) Try.underlying28
      have hb : Try.prog.bytesOf 9 = 16 := by kernel_rfl
      simp only [hb, strs, List.length_map, List.length_take, List.length_drop, reachBytes] at hw
      have hml : len1 ≤ 140737488355328 := by unfold maxLen at hm; omega
      have htl : (ss.take len1).length = len1 := by rw [List.length_take]; omega
      refine ⟨ss.take len1, htl, Kd.C_of_reads (d := ByteArray.empty) (h1 := fun _ => rfl) ⟨htl, by omega, fun h => ⟨x, rfl, fun j hj => ?_⟩⟩, hl, by omega⟩
      rw [hcell j (by omega)]
      simp only [List.getD_eq_getElem?_getD, List.getElem?_take, if_pos hj]
  subst hl1
  obtain ⟨k, hk⟩ := (Pl.holds_true x0_0 x0_1 x0_2 x0_3 l1).rounds
  refine (idiomlaw13_ListsHolds.calls k x0_0 x0_1 x0_2 x0_3 a1 cap1 l1 true W hR1 hc1 (tbl hsh) hk).mono fun e W' ⟨he, bel⟩ => ?_
  subst he
  exact ⟨_, rfl, _, _, _, [], _, [], hW', trodAll_mk1 (shut_bool Try.underlying4 _), (trodAll_cons_mk (Below.trod laidOut (by kernel_rfl) (of_decide_eq_true (by kernel_rfl)) k0 bel lt0) (trodAll_cons_mk (Below.trod laidOut (by kernel_rfl) (of_decide_eq_true (by kernel_rfl)) k1 bel lt1) trodAll_mk0)), rfl, bel.frame _, fun h => by cases h⟩
set_option maxRecDepth 100000 in
theorem lifted (os : Os) (started : os.Started) (H : Type) (enc : TypeId × Value → H) (F : Stop.Interp) :
    ReturnsInHanded {} Try.checked os 5 .any ((Rows.OpenSpec.upto Rows.listsHoldsSpec).pre6 enc Try.prog Try.f5 Rows.listsHoldsUptoRow.domain false) (((Rows.OpenSpec.upto Rows.listsHoldsSpec).at F).post enc Try.prog Try.f5 false true false false) := by
  refine returnsInHanded_of_calls own started (by kernel_rfl)
    (OpenSpec.witness (enc := enc) (C := Try.checked) (s := Rows.OpenSpec.upto Rows.listsHoldsSpec) (k := Rows.uptoSmall) rfl false ⟨#[], #[Value.agg #[.string ByteArray.empty, .string ByteArray.empty, .string ByteArray.empty, .string ByteArray.empty], Value.slice none 0 0], []⟩ 8 (by kernel_rfl) (by kernel_rfl) (by kernel_rfl)
      (x := ([.agg [.lit (.string []), .lit (.string []), .lit (.string []), .lit (.string [])], .nil], [], [])) (by kernel_rfl) rfl (by kernel_rfl)) ?_
  intro w tape i _ hsh _ hok hpre hholds
  obtain ⟨_, _, _, fn', hfn', _, _, _, _, hval⟩ := hok
  have e : fn' = Try.f5 := Option.some.inj (hfn'.symm.trans Try.func5)
  subst e
  obtain ⟨ds, gs, before, hw, hc, hkk⟩ := (OpenSpec.pre_some (k := Rows.uptoSmall) rfl _ _ _ _).1 hpre.1
  have hw' := DataW.Whole.of_heap (w' := w.forCall tape i) (by rfl) hw
  refine (contract H enc (w.forCall tape i) w.heap.size i.args ds gs before hval hw' (hpre.2.weights hw) hsh).mono fun e W' ⟨v, he, hp⟩ => ?_
  subst he
  exact ChangeSpec.post_blind hp
theorem proved : Rows.ListsHoldsUptoSaid :=
  OpenClaim.holds_of_cond 5 Try.f5 rfl rfl rfl rfl rfl rfl rfl ⟨rfl, rfl, rfl, rfl, rfl⟩ rfl rfl rfl rfl rfl (by kernel_rfl) Try.func5 (by kernel_rfl)
    (of_decide_eq_true (by kernel_rfl)) (by unfold Func.isWrapper; first | (rw [if_pos (by decide +kernel)]; kernel_rfl) | (rw [if_neg (by decide +kernel)]; exact ⟨rfl, rfl⟩))
    (fun os started H enc _ F => lifted os started H enc F)
end Go.Proofs.Ytalojokihccboaa.listsHolds
namespace Go.Proofs.Ytalojokihccboaa
/-- The row of ListsHolds, under a short name, for the claim. -/
theorem listsHolds_row : Rows.ListsHoldsUptoSaid := listsHolds.proved
#print axioms listsHolds_row
end Go.Proofs.Ytalojokihccboaa
