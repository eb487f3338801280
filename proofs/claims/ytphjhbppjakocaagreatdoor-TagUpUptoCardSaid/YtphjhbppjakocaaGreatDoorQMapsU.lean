/- Several texts of this claim in one: QMapsU,QChnU,QPlcU,QChainU; conditions: those that each theorem states. -/
import Derived.Test.YtphjhbppjakocaaGreatDoorPU0
import Derived.Test.YtphjhbppjakocaaGreatDoorBrief
import Derived.Test.YtphjhbppjakocaaGreatDoorPU15
import Derived.Test.YtphjhbppjakocaaGreatDoorPU17
import Derived.Maps.OwnSet
import Derived.Test.YtphjhbppjakocaaGreatDoorQCp
import Derived.Test.YtphjhbppjakocaaGreatDoorPU13
namespace Go.Proofs.YtphjhbppjakocaaGreatDoor.PTag
open Go.RowKit Go.Proofs.YtphjhbppjakocaaGreatDoorW.PrintWords Go.Proofs.YtphjhbppjakocaaGreatDoorW.PrintLast Go.Proofs.YtphjhbppjakocaaGreatDoorW.PrintMore Go.WideShapes Go.ChangeMaps
set_option linter.unusedVariables false
set_option linter.unusedSimpArgs false
theorem strKey_ : Go.Maps.Keyed Tryz.prog 9 := Go.Maps.string_keyed Tryz.underlying9
def MapAt (w : World) (b n : Nat) (g : ByteArray → Option Int) : Prop :=
  ∃ D : DataW Unit, w.ownsMap Tryz.prog 9 (plainElem Tryz.prog 3) b n D ∧ ∀ s : ByteArray, Go.Maps.has D (.string s.data.toList) = (g s).isSome ∧ D.atKey (.string s.data.toList) (.lit (.int .i64 0)) = .lit (.int .i64 ((g s).getD 0))
theorem MapAt.made (w : World) : MapAt (w.alloc (.map #[] 0)) w.heap.size 0 (fun _ => none) :=
  ⟨_, World.ownsMap_made w _ _ _, fun s => ⟨rfl, rfl⟩⟩
theorem MapAt.same {w w' : World} {b n : Nat} {g : ByteArray → Option Int} (h : MapAt w b n g) (hh : w'.heap[b]? = w.heap[b]?) : MapAt w' b n g := by
  obtain ⟨D, ⟨es, clock, hb, r⟩, hg⟩ := h
  exact ⟨D, ⟨es, clock, hh.trans hb, r⟩, hg⟩
theorem MapAt.lt {w : World} {b n : Nat} {g : ByteArray → Option Int} (h : MapAt w b n g) : b < w.heap.size := by
  obtain ⟨D, ho, _⟩ := h
  exact ho.lt
theorem MapAt.below {w w' : World} {b n : Nat} {g : ByteArray → Option Int} (h : MapAt w b n g) (hb : Below w.heap.size w w') : MapAt w' b n g := h.same (hb.block b h.lt)
theorem MapAt.mono {w : World} {b n m : Nat} {g : ByteArray → Option Int} (h : MapAt w b n g) (hn : n ≤ m) : MapAt w b m g := by
  obtain ⟨D, ho, hg⟩ := h
  exact ⟨D, ho.mono hn, hg⟩
theorem data_inj_ {s q : ByteArray} (h : s.data.toList = q.data.toList) : s = q := by
  cases s; cases q
  simp only [ByteArray.mk.injEq]
  exact Array.toList_inj.1 h
theorem zero_int_ (w : World) : (zeroValue 3).run Tryz.prog w = .ok (.int .i64 0) w := by kernel_rfl
section
variable {ops : Array Oper} {rest : List Oper} {o : Oper} {a : Act} {Q : Exit → Act → World → Prop}
theorem map_look_ (w : World) (hg : o.guard = none) (m x : Operand) (hop : o.op = Op.lookup 51 m x true) (b n : Nat) (g : ByteArray → Option Int) (hm : a.eval m = .map (some b)) (h : MapAt w b n g)
    (s : ByteArray) (hx : a.eval x = .string s) (hs : s.size ≤ maxLen) (hK : wpList Tryz.prog ops Q rest (a.put o.dst (.tuple #[.int .i64 ((g s).getD 0), .bool (g s).isSome])) w) : wpList Tryz.prog ops Q (o :: rest) a w := by
  obtain ⟨D, ho, hgs⟩ := h
  refine wpList_lookup_own_ok_int w hg m x 51 hop 9 3 .i64 strKey_ Tryz.underlying51 Tryz.underlying3 (zero_int_ w) b n D hm ho (.string s) (.string s.data.toList) hx (Go.WideMaps.keyOf_string_mk Tryz.underlying9 hs) ?_
  intro c hat _
  obtain ⟨h1, h2⟩ := hgs s
  have hc : c = (g s).getD 0 := by
    have e := hat.symm.trans h2
    injection e with e
    injection e
  rw [hc, h1]
  exact hK
theorem map_store_ (w : World) (hg : o.guard = none) (m x v : Operand) (hop : o.op = Op.mapUpdate 51 m x v) (b n : Nat) (g : ByteArray → Option Int) (hm : a.eval m = .map (some b)) (h : MapAt w b n g) (hn : n < maxLen)
    (s : ByteArray) (hx : a.eval x = .string s) (hs : s.size ≤ maxLen) (i : Int) (hv : a.eval v = .int .i64 i) (hi : (Lit.int .i64 i).wf = true)
    (hK : ∀ w', MapAt w' b (n + 1) (fun q => if q = s then some i else g q) → w.grownBy w' (some b) → wpList Tryz.prog ops Q rest (a.put o.dst undef) w') : wpList Tryz.prog ops Q (o :: rest) a w := by
  obtain ⟨D, ho, hgs⟩ := h
  refine wpList_mapUpdate_own w hg m x v 51 hop 9 3 strKey_ Tryz.underlying51 (plainElem Tryz.prog 3) b n D hm ho hn (.string s) (.int .i64 i) (.string s.data.toList) hx hv (Go.WideMaps.keyOf_string_mk Tryz.underlying9 hs) (.lit (.int .i64 i)) [] (plainElem_int Tryz.underlying3 hi) ?_
  intro w' ho' hgr
  refine hK w' ⟨_, ho', fun q => ?_⟩ hgr
  by_cases hq : q = s
  · subst hq
    simp only [if_true]
    exact ⟨Go.Maps.has_put_same (ho.isMap) (show Go.WideAt.IsKeyLit (.string q.data.toList) from trivial) _, Go.Maps.atKey_put_same (ho.isMap) (show Go.WideAt.IsKeyLit (.string q.data.toList) from trivial) _ _⟩
  · simp only [if_neg hq]
    have hne : (Lit.string q.data.toList) ≠ .string s.data.toList := fun e => hq (data_inj_ (by injection e))
    exact ⟨(Go.Maps.has_put_other hne _).trans (hgs q).1, (Go.Maps.atKey_put_other hne _ _).trans (hgs q).2⟩
end
abbrev TagT := ByteArray × ByteArray × ByteArray × List ByteArray × List S39
def tag_parent.f (k : Nat) (l s r : ByteArray) (V : List ByteArray) (K : List S39) : Option TagT :=
  if 0 < K.length then some (l, s, r, V, []) else (tag_text.f k l s r V K).bind fun t => if t.size ≤ 9223372036854775807 then (if 0 < V.length then some (l, s, r, V.take (V.length - 1), K) else if r.toList = ([] : List UInt8) then (if s.toList = ([] : List UInt8) then some (⟨#[]⟩, s, r, V, K) else some (l, ⟨#[]⟩, r, V, K)) else some (l, s, ⟨#[]⟩, V, K)) else none
def TagV_ (w : World) (P : Addr → Prop) (v : Value) (t : TagT) : Prop := ∃ A3 c3 A4 c4, v = .agg #[.string t.1, .string t.2.1, .string t.2.2.1, .slice A3 t.2.2.2.1.length c3, .slice A4 t.2.2.2.2.length c4] ∧
  Kd.C Kd.string w A3 t.2.2.2.1.length t.2.2.2.1 ∧ t.2.2.2.1.length ≤ c3 ∧ Kd.C k39 w A4 t.2.2.2.2.length t.2.2.2.2 ∧ t.2.2.2.2.length ≤ c4 ∧ (∀ ad, A3 = some ad → 0 < t.2.2.2.1.length → P ad) ∧ (∀ ad, A4 = some ad → 0 < t.2.2.2.2.length → P ad)
theorem C_nil_ {α : Type} (d : Kd α) (w : World) : d.C w none 0 [] := ⟨rfl, by omega, fun h => absurd h (by omega)⟩
theorem C_take_ {α : Type} {d : Kd α} {w : World} {A : Option Addr} {n : Nat} {xs : List α} (h : d.C w A n xs) {m : Nat} (hm : m ≤ n) : d.C w A m (xs.take m) := by
  have h1 := h.1
  have h2 := h.2.1
  refine ⟨by rw [List.length_take]; omega, by omega, fun h0 => ?_⟩
  obtain ⟨ad, e, hc⟩ := h.2.2 (by omega)
  refine ⟨ad, e, fun j p hp => hc j p ?_⟩
  rw [List.getElem?_take] at hp
  split at hp
  · exact hp
  · cases hp
set_option maxHeartbeats 8000000 in
set_option maxRecDepth 100000 in
theorem tag_parent.calls (k : Nat) (g : ByteArray → Option Int) (bm nm : Nat) (l s r : ByteArray) (A3 : Option Addr) (c3 : Nat) (V : List ByteArray) (A4 : Option Addr) (c4 : Nat) (K : List S39) (Ap : Option Addr) (np cp : Nat) (t : TagT) (w : World)
    (hV : Kd.C Kd.string w A3 V.length V) (cV : V.length ≤ c3) (hK : Kd.C k39 w A4 K.length K) (cK : K.length ≤ c4) (hm : MapAt w bm nm g) (hgn : ∀ x, g x = none) (h : tag_parent.f k l s r V K = some t) :
    Calls Tryz.prog 63 #[.agg #[.string l, .string s, .string r, .slice A3 V.length c3, .slice A4 K.length c4], .map (some bm), .slice Ap np cp] w fun e w' => ∃ v, e = .returned v ∧ TagV_ w' (fun ad => ((A3 = some ad ∧ 0 < V.length) ∨ (A4 = some ad ∧ 0 < K.length)) ∨ w.heap.size ≤ ad.block) v t ∧ Below w.heap.size w w' := by
  have hu25 := Tryz.underlying25
  have HV := Aside0.mk hV
  have HK := Aside0.mk hK
  have HM := Aside0.mk hm
  clear hV hK hm
  have HB := Aside0.mk (Below.refl w.heap.size w)
  unfold tag_parent.f at h
  by_cases h1 : 0 < K.length
  · obtain h := Option.some.inj ((if_pos h1).symm.trans h)
    subst h
    have d1 : decide (0 < (K.length : Int)) = true := decide_eq_true (by omega)
    have d2 : decide (0 < K.length) = true := decide_eq_true h1
    clear h1
    go_enter Tryz.func63, Tryz.ntmps63
    go_wp2_with (first
      | ((with_reducible refine gate_dst (N := 3) rfl ?_); refine box_event ?hg (N := 3) ?hd (cs := #[.string l, .string s, .string r, .slice A3 V.length c3, .slice A4 K.length c4]) (t := 25) ?hr ?_; (case hd => rfl); (case hg => rfl); (case hr => first | (go_simp; done) | (go_simp; rfl)); intro gt hg w1 hbox hb; have BT := Aside0.mk hbox; have GT := Aside0.mk ((by rw [hg]; exact Nat.le_refl _ : w.heap.size ≤ gt)); replace HB := Aside0.mk (below_step HB.out hb); clear hb hbox hg)
      | ((with_reducible refine gate_dst (N := 6) rfl ?_); refine box_event ?hg (N := 6) ?hd (cs := #[.string (⟨#[]⟩ : ByteArray), .string (⟨#[]⟩ : ByteArray), .string (⟨#[]⟩ : ByteArray), .slice none 0 0, .slice none 0 0]) (t := 25) ?hr ?_; (case hd => rfl); (case hg => rfl); (case hr => first | (go_simp; done) | (go_simp; rfl)); intro gr hg w2 hbox hb; have BR := Aside0.mk hbox; have NE := Aside0.mk ((by rw [hg]; exact Nat.ne_of_lt (blk_lt BT.out) : gt ≠ gr)); have GR := Aside0.mk ((by rw [hg]; exact below_size HB.out : w.heap.size ≤ gr)); replace BT := Aside0.mk (blk_below BT.out hb); replace HB := Aside0.mk (below_step HB.out hb); clear hb hbox hg; obtain ⟨hc0, hc1, hc2, hc3, hc4, hf0, hf1, hf2, hf3, hf4⟩ := c5_ BT; obtain ⟨rc0, rc1, rc2, rc3, rc4, rf0, rf1, rf2, rf3, rf4⟩ := c5_ BR; have hne := NE.out; have hne2 := NE.out.symm))
    refine bodyPost_ret (results_cell_row rfl _ _ gr 25 #[.string l, .string s, .string r, .slice A3 V.length c3, .slice none 0 0] (0, 0) _ rfl (TgB.put (blk_far BR.out NE.out.symm _)) Tryz.underlying25 rfl (by kernel_rfl)) rfl ?_
    have hb' := below_set (below_set (below_set (below_set (below_set (below_set HB.out GT.out (j := 4) (v := .slice none 0 0)) GR.out (j := 0) (v := .string l)) GR.out (j := 1) (v := .string s)) GR.out (j := 2) (v := .string r)) GR.out (j := 3) (v := .slice A3 V.length c3)) GR.out (j := 4) (v := .slice none 0 0)
    exact ⟨_, rfl, ⟨_, _, _, _, rfl, Kd.C_below HV.out hb', cV, C_nil_ _ _, Nat.zero_le _, (fun ad h h0 => .inl (.inl ⟨h, h0⟩)), (fun ad h => by cases h)⟩, hb'⟩
  · replace h := (if_neg h1).symm.trans h
    have d1 : decide (0 < (K.length : Int)) = false := decide_eq_false (by omega)
    have d2 : decide (0 < K.length) = false := decide_eq_false h1
    clear h1
    obtain ⟨tx, ht, h⟩ := Option.bind_eq_some_iff.1 h
    have HT := Aside0.mk ht
    clear ht
    by_cases hz : tx.size ≤ 9223372036854775807
    · replace h := (if_pos hz).symm.trans h
      have hz' : tx.size ≤ maxLen := hz
      have HZ := Aside0.mk hz'
      clear hz hz'
      have HG := Aside0.mk (hgn tx)
      have H := Aside0.mk h
      clear h
      by_cases hv : 0 < V.length
      · have e1 : decide (0 < (V.length : Int)) = true := decide_eq_true (by omega)
        have e2 : decide (0 < V.length) = true := decide_eq_true hv
        obtain h := Option.some.inj ((if_pos hv).symm.trans H.out)
        subst h
        clear H
        have hw : IntKind.i64.wrap ((V.length : Int) - 1) = ((V.length - 1 : Nat) : Int) := by have := HV.out.2.1; simp [IntKind.wrap, IntKind.bits, IntKind.signed]; omega
        have hle : V.length - 1 ≤ c3 := by omega
        go_enter Tryz.func63, Tryz.ntmps63
        go_wp2_with (first
          | ((with_reducible refine gate_dst (N := 3) rfl ?_); refine box_event ?hg (N := 3) ?hd (cs := #[.string l, .string s, .string r, .slice A3 V.length c3, .slice A4 K.length c4]) (t := 25) ?hr ?_; (case hd => rfl); (case hg => rfl); (case hr => first | (go_simp; done) | (go_simp; rfl)); intro gt hg w1 hbox hb; have BT := Aside0.mk hbox; have GT := Aside0.mk ((by rw [hg]; exact Nat.le_refl _ : w.heap.size ≤ gt)); replace HB := Aside0.mk (below_step HB.out hb); clear hb hbox hg)
          | ((with_reducible refine gate_dst (N := 6) rfl ?_); refine box_event ?hg (N := 6) ?hd (cs := #[.string (⟨#[]⟩ : ByteArray), .string (⟨#[]⟩ : ByteArray), .string (⟨#[]⟩ : ByteArray), .slice none 0 0, .slice none 0 0]) (t := 25) ?hr ?_; (case hd => rfl); (case hg => rfl); (case hr => first | (go_simp; done) | (go_simp; rfl)); intro gr hg w2 hbox hb; have BR := Aside0.mk hbox; have NE := Aside0.mk ((by rw [hg]; exact Nat.ne_of_lt (blk_lt BT.out) : gt ≠ gr)); have GR := Aside0.mk ((by rw [hg]; exact below_size HB.out : w.heap.size ≤ gr)); replace BT := Aside0.mk (blk_below BT.out hb); replace HB := Aside0.mk (below_step HB.out hb); clear hb hbox hg; obtain ⟨hc0, hc1, hc2, hc3, hc4, hf0, hf1, hf2, hf3, hf4⟩ := c5_ BT; obtain ⟨rc0, rc1, rc2, rc3, rc4, rf0, rf1, rf2, rf3, rf4⟩ := c5_ BR; have hne := NE.out; have hne2 := NE.out.symm)
          | (go_at_call 40; refine (tag_text.calls k _ _ _ _ _ V _ _ K tx _ (Kd.C_below HV.out HB.out) cV (Kd.C_below HK.out HB.out) cK HT.out).mono ?_; rintro e w3 ⟨rfl, hb⟩; replace BT := Aside0.mk (blk_below BT.out hb); replace BR := Aside0.mk (blk_below BR.out hb); replace HB := Aside0.mk (below_step HB.out hb); clear hb hc0 hc1 hc2 hc3 hc4 hf0 hf1 hf2 hf3 hf4 rc0 rc1 rc2 rc3 rc4 rf0 rf1 rf2 rf3 rf4; obtain ⟨hc0, hc1, hc2, hc3, hc4, hf0, hf1, hf2, hf3, hf4⟩ := c5_ BT; obtain ⟨rc0, rc1, rc2, rc3, rc4, rf0, rf1, rf2, rf3, rf4⟩ := c5_ BR)
          | (at_lookup; refine map_look_ _ rfl _ _ rfl bm nm g rfl (HM.out.below HB.out) tx rfl HZ.out ?_; rw [HG.out]))
        refine bodyPost_ret (results_cell_row rfl _ _ gr 25 #[.string l, .string s, .string r, .slice A3 (V.length - 1) c3, .slice A4 K.length c4] (0, 0) _ rfl (TgB.put (blk_far BR.out NE.out.symm _)) Tryz.underlying25 rfl (by kernel_rfl)) rfl ?_
        have hb' := below_set (below_set (below_set (below_set (below_set (below_set HB.out GT.out (j := 3) (v := .slice A3 (V.length - 1) c3)) GR.out (j := 0) (v := .string l)) GR.out (j := 1) (v := .string s)) GR.out (j := 2) (v := .string r)) GR.out (j := 3) (v := .slice A3 (V.length - 1) c3)) GR.out (j := 4) (v := .slice A4 K.length c4)
        have hl : (V.take (V.length - 1)).length = V.length - 1 := by rw [List.length_take]; omega
        exact ⟨_, rfl, ⟨A3, c3, A4, c4, by show _ = Value.agg #[.string l, .string s, .string r, .slice A3 (V.take (V.length - 1)).length c3, .slice A4 K.length c4]; rw [hl], by show Kd.C Kd.string _ A3 (V.take (V.length - 1)).length (V.take (V.length - 1)); rw [hl]; exact C_take_ (Kd.C_below HV.out hb') (by omega), by show (V.take (V.length - 1)).length ≤ c3; rw [hl]; exact hle, Kd.C_below HK.out hb', cK, (fun ad h h0 => .inl (.inl ⟨h, hv⟩)), (fun ad h h0 => .inl (.inr ⟨h, h0⟩))⟩, hb'⟩
      · have e1 : decide (0 < (V.length : Int)) = false := decide_eq_false (by omega)
        have e2 : decide (0 < V.length) = false := decide_eq_false hv
        replace H := Aside0.mk ((if_neg hv).symm.trans H.out)
        by_cases hr : r.toList = ([] : List UInt8)
        · have e3 : (r.toList != ([] : List UInt8)) = false := by rw [hr]; rfl
          have e4 : (r.toList == ([] : List UInt8)) = true := by rw [hr]; rfl
          replace H := Aside0.mk ((if_pos hr).symm.trans H.out)
          by_cases hs : s.toList = ([] : List UInt8)
          · have e5 : (s.toList != ([] : List UInt8)) = false := by rw [hs]; rfl
            have e6 : (s.toList == ([] : List UInt8)) = true := by rw [hs]; rfl
            obtain h := Option.some.inj ((if_pos hs).symm.trans H.out)
            subst h
            clear H hv hr hs
            go_enter Tryz.func63, Tryz.ntmps63
            go_wp2_with (first
              | ((with_reducible refine gate_dst (N := 3) rfl ?_); refine box_event ?hg (N := 3) ?hd (cs := #[.string l, .string s, .string r, .slice A3 V.length c3, .slice A4 K.length c4]) (t := 25) ?hr ?_; (case hd => rfl); (case hg => rfl); (case hr => first | (go_simp; done) | (go_simp; rfl)); intro gt hg w1 hbox hb; have BT := Aside0.mk hbox; have GT := Aside0.mk ((by rw [hg]; exact Nat.le_refl _ : w.heap.size ≤ gt)); replace HB := Aside0.mk (below_step HB.out hb); clear hb hbox hg)
              | ((with_reducible refine gate_dst (N := 6) rfl ?_); refine box_event ?hg (N := 6) ?hd (cs := #[.string (⟨#[]⟩ : ByteArray), .string (⟨#[]⟩ : ByteArray), .string (⟨#[]⟩ : ByteArray), .slice none 0 0, .slice none 0 0]) (t := 25) ?hr ?_; (case hd => rfl); (case hg => rfl); (case hr => first | (go_simp; done) | (go_simp; rfl)); intro gr hg w2 hbox hb; have BR := Aside0.mk hbox; have NE := Aside0.mk ((by rw [hg]; exact Nat.ne_of_lt (blk_lt BT.out) : gt ≠ gr)); have GR := Aside0.mk ((by rw [hg]; exact below_size HB.out : w.heap.size ≤ gr)); replace BT := Aside0.mk (blk_below BT.out hb); replace HB := Aside0.mk (below_step HB.out hb); clear hb hbox hg; obtain ⟨hc0, hc1, hc2, hc3, hc4, hf0, hf1, hf2, hf3, hf4⟩ := c5_ BT; obtain ⟨rc0, rc1, rc2, rc3, rc4, rf0, rf1, rf2, rf3, rf4⟩ := c5_ BR; have hne := NE.out; have hne2 := NE.out.symm)
              | (go_at_call 40; refine (tag_text.calls k _ _ _ _ _ V _ _ K tx _ (Kd.C_below HV.out HB.out) cV (Kd.C_below HK.out HB.out) cK HT.out).mono ?_; rintro e w3 ⟨rfl, hb⟩; replace BT := Aside0.mk (blk_below BT.out hb); replace BR := Aside0.mk (blk_below BR.out hb); replace HB := Aside0.mk (below_step HB.out hb); clear hb hc0 hc1 hc2 hc3 hc4 hf0 hf1 hf2 hf3 hf4 rc0 rc1 rc2 rc3 rc4 rf0 rf1 rf2 rf3 rf4; obtain ⟨hc0, hc1, hc2, hc3, hc4, hf0, hf1, hf2, hf3, hf4⟩ := c5_ BT; obtain ⟨rc0, rc1, rc2, rc3, rc4, rf0, rf1, rf2, rf3, rf4⟩ := c5_ BR)
              | (at_lookup; refine map_look_ _ rfl _ _ rfl bm nm g rfl (HM.out.below HB.out) tx rfl HZ.out ?_; rw [HG.out]))
            refine bodyPost_ret (results_cell_row rfl _ _ gr 25 #[.string (⟨#[]⟩ : ByteArray), .string s, .string r, .slice A3 V.length c3, .slice A4 K.length c4] (0, 0) _ rfl (TgB.put (blk_far BR.out NE.out.symm _)) Tryz.underlying25 rfl (by kernel_rfl)) rfl ?_
            have hb' := below_set (below_set (below_set (below_set (below_set (below_set HB.out GT.out (j := 0) (v := .string (⟨#[]⟩ : ByteArray))) GR.out (j := 0) (v := .string (⟨#[]⟩ : ByteArray))) GR.out (j := 1) (v := .string s)) GR.out (j := 2) (v := .string r)) GR.out (j := 3) (v := .slice A3 V.length c3)) GR.out (j := 4) (v := .slice A4 K.length c4)
            exact ⟨_, rfl, ⟨_, _, _, _, rfl, Kd.C_below HV.out hb', cV, Kd.C_below HK.out hb', cK, (fun ad h h0 => .inl (.inl ⟨h, h0⟩)), (fun ad h h0 => .inl (.inr ⟨h, h0⟩))⟩, hb'⟩
          · have e5 : (s.toList != ([] : List UInt8)) = true := bne_iff_ne.mpr hs
            have e6 : (s.toList == ([] : List UInt8)) = false := beq_eq_false_iff_ne.mpr hs
            obtain h := Option.some.inj ((if_neg hs).symm.trans H.out)
            subst h
            clear H hv hr hs
            go_enter Tryz.func63, Tryz.ntmps63
            go_wp2_with (first
              | ((with_reducible refine gate_dst (N := 3) rfl ?_); refine box_event ?hg (N := 3) ?hd (cs := #[.string l, .string s, .string r, .slice A3 V.length c3, .slice A4 K.length c4]) (t := 25) ?hr ?_; (case hd => rfl); (case hg => rfl); (case hr => first | (go_simp; done) | (go_simp; rfl)); intro gt hg w1 hbox hb; have BT := Aside0.mk hbox; have GT := Aside0.mk ((by rw [hg]; exact Nat.le_refl _ : w.heap.size ≤ gt)); replace HB := Aside0.mk (below_step HB.out hb); clear hb hbox hg)
              | ((with_reducible refine gate_dst (N := 6) rfl ?_); refine box_event ?hg (N := 6) ?hd (cs := #[.string (⟨#[]⟩ : ByteArray), .string (⟨#[]⟩ : ByteArray), .string (⟨#[]⟩ : ByteArray), .slice none 0 0, .slice none 0 0]) (t := 25) ?hr ?_; (case hd => rfl); (case hg => rfl); (case hr => first | (go_simp; done) | (go_simp; rfl)); intro gr hg w2 hbox hb; have BR := Aside0.mk hbox; have NE := Aside0.mk ((by rw [hg]; exact Nat.ne_of_lt (blk_lt BT.out) : gt ≠ gr)); have GR := Aside0.mk ((by rw [hg]; exact below_size HB.out : w.heap.size ≤ gr)); replace BT := Aside0.mk (blk_below BT.out hb); replace HB := Aside0.mk (below_step HB.out hb); clear hb hbox hg; obtain ⟨hc0, hc1, hc2, hc3, hc4, hf0, hf1, hf2, hf3, hf4⟩ := c5_ BT; obtain ⟨rc0, rc1, rc2, rc3, rc4, rf0, rf1, rf2, rf3, rf4⟩ := c5_ BR; have hne := NE.out; have hne2 := NE.out.symm)
              | (go_at_call 40; refine (tag_text.calls k _ _ _ _ _ V _ _ K tx _ (Kd.C_below HV.out HB.out) cV (Kd.C_below HK.out HB.out) cK HT.out).mono ?_; rintro e w3 ⟨rfl, hb⟩; replace BT := Aside0.mk (blk_below BT.out hb); replace BR := Aside0.mk (blk_below BR.out hb); replace HB := Aside0.mk (below_step HB.out hb); clear hb hc0 hc1 hc2 hc3 hc4 hf0 hf1 hf2 hf3 hf4 rc0 rc1 rc2 rc3 rc4 rf0 rf1 rf2 rf3 rf4; obtain ⟨hc0, hc1, hc2, hc3, hc4, hf0, hf1, hf2, hf3, hf4⟩ := c5_ BT; obtain ⟨rc0, rc1, rc2, rc3, rc4, rf0, rf1, rf2, rf3, rf4⟩ := c5_ BR)
              | (at_lookup; refine map_look_ _ rfl _ _ rfl bm nm g rfl (HM.out.below HB.out) tx rfl HZ.out ?_; rw [HG.out]))
            refine bodyPost_ret (results_cell_row rfl _ _ gr 25 #[.string l, .string (⟨#[]⟩ : ByteArray), .string r, .slice A3 V.length c3, .slice A4 K.length c4] (0, 0) _ rfl (TgB.put (blk_far BR.out NE.out.symm _)) Tryz.underlying25 rfl (by kernel_rfl)) rfl ?_
            have hb' := below_set (below_set (below_set (below_set (below_set (below_set HB.out GT.out (j := 1) (v := .string (⟨#[]⟩ : ByteArray))) GR.out (j := 0) (v := .string l)) GR.out (j := 1) (v := .string (⟨#[]⟩ : ByteArray))) GR.out (j := 2) (v := .string r)) GR.out (j := 3) (v := .slice A3 V.length c3)) GR.out (j := 4) (v := .slice A4 K.length c4)
            exact ⟨_, rfl, ⟨_, _, _, _, rfl, Kd.C_below HV.out hb', cV, Kd.C_below HK.out hb', cK, (fun ad h h0 => .inl (.inl ⟨h, h0⟩)), (fun ad h h0 => .inl (.inr ⟨h, h0⟩))⟩, hb'⟩
        · have e3 : (r.toList != ([] : List UInt8)) = true := bne_iff_ne.mpr hr
          have e4 : (r.toList == ([] : List UInt8)) = false := beq_eq_false_iff_ne.mpr hr
          obtain h := Option.some.inj ((if_neg hr).symm.trans H.out)
          subst h
          clear H hv hr
          go_enter Tryz.func63, Tryz.ntmps63
          go_wp2_with (first
            | ((with_reducible refine gate_dst (N := 3) rfl ?_); refine box_event ?hg (N := 3) ?hd (cs := #[.string l, .string s, .string r, .slice A3 V.length c3, .slice A4 K.length c4]) (t := 25) ?hr ?_; (case hd => rfl); (case hg => rfl); (case hr => first | (go_simp; done) | (go_simp; rfl)); intro gt hg w1 hbox hb; have BT := Aside0.mk hbox; have GT := Aside0.mk ((by rw [hg]; exact Nat.le_refl _ : w.heap.size ≤ gt)); replace HB := Aside0.mk (below_step HB.out hb); clear hb hbox hg)
            | ((with_reducible refine gate_dst (N := 6) rfl ?_); refine box_event ?hg (N := 6) ?hd (cs := #[.string (⟨#[]⟩ : ByteArray), .string (⟨#[]⟩ : ByteArray), .string (⟨#[]⟩ : ByteArray), .slice none 0 0, .slice none 0 0]) (t := 25) ?hr ?_; (case hd => rfl); (case hg => rfl); (case hr => first | (go_simp; done) | (go_simp; rfl)); intro gr hg w2 hbox hb; have BR := Aside0.mk hbox; have NE := Aside0.mk ((by rw [hg]; exact Nat.ne_of_lt (blk_lt BT.out) : gt ≠ gr)); have GR := Aside0.mk ((by rw [hg]; exact below_size HB.out : w.heap.size ≤ gr)); replace BT := Aside0.mk (blk_below BT.out hb); replace HB := Aside0.mk (below_step HB.out hb); clear hb hbox hg; obtain ⟨hc0, hc1, hc2, hc3, hc4, hf0, hf1, hf2, hf3, hf4⟩ := c5_ BT; obtain ⟨rc0, rc1, rc2, rc3, rc4, rf0, rf1, rf2, rf3, rf4⟩ := c5_ BR; have hne := NE.out; have hne2 := NE.out.symm)
            | (go_at_call 40; refine (tag_text.calls k _ _ _ _ _ V _ _ K tx _ (Kd.C_below HV.out HB.out) cV (Kd.C_below HK.out HB.out) cK HT.out).mono ?_; rintro e w3 ⟨rfl, hb⟩; replace BT := Aside0.mk (blk_below BT.out hb); replace BR := Aside0.mk (blk_below BR.out hb); replace HB := Aside0.mk (below_step HB.out hb); clear hb hc0 hc1 hc2 hc3 hc4 hf0 hf1 hf2 hf3 hf4 rc0 rc1 rc2 rc3 rc4 rf0 rf1 rf2 rf3 rf4; obtain ⟨hc0, hc1, hc2, hc3, hc4, hf0, hf1, hf2, hf3, hf4⟩ := c5_ BT; obtain ⟨rc0, rc1, rc2, rc3, rc4, rf0, rf1, rf2, rf3, rf4⟩ := c5_ BR)
            | (at_lookup; refine map_look_ _ rfl _ _ rfl bm nm g rfl (HM.out.below HB.out) tx rfl HZ.out ?_; rw [HG.out]))
          refine bodyPost_ret (results_cell_row rfl _ _ gr 25 #[.string l, .string s, .string (⟨#[]⟩ : ByteArray), .slice A3 V.length c3, .slice A4 K.length c4] (0, 0) _ rfl (TgB.put (blk_far BR.out NE.out.symm _)) Tryz.underlying25 rfl (by kernel_rfl)) rfl ?_
          have hb' := below_set (below_set (below_set (below_set (below_set (below_set HB.out GT.out (j := 2) (v := .string (⟨#[]⟩ : ByteArray))) GR.out (j := 0) (v := .string l)) GR.out (j := 1) (v := .string s)) GR.out (j := 2) (v := .string (⟨#[]⟩ : ByteArray))) GR.out (j := 3) (v := .slice A3 V.length c3)) GR.out (j := 4) (v := .slice A4 K.length c4)
          exact ⟨_, rfl, ⟨_, _, _, _, rfl, Kd.C_below HV.out hb', cV, Kd.C_below HK.out hb', cK, (fun ad h h0 => .inl (.inl ⟨h, h0⟩)), (fun ad h h0 => .inl (.inr ⟨h, h0⟩))⟩, hb'⟩
    · replace h := (if_neg hz).symm.trans h
      cases h
end Go.Proofs.YtphjhbppjakocaaGreatDoor.PTag
namespace Go.Proofs.YtphjhbppjakocaaGreatDoor.PTag
open Go.RowKit Go.Proofs.YtphjhbppjakocaaGreatDoorW.PrintWords Go.Proofs.YtphjhbppjakocaaGreatDoorW.PrintLast Go.Proofs.YtphjhbppjakocaaGreatDoorW.PrintMore Go.WideShapes Go.ChangeMaps
set_option linter.unusedVariables false
set_option linter.unusedSimpArgs false
theorem add_block_ (ad : Addr) (j : Nat) : (ad.add j).block = ad.block := by unfold Addr.add; split <;> rfl
theorem cell_block_ {w w' : World} {p : Addr} (h : w'.heap[p.block]? = w.heap[p.block]?) : w'.cell? p = w.cell? p := by unfold World.cell?; rw [h]
theorem C_same_ {α : Type} {d : Kd α} (hd : ∀ (w w' : World) x cs, d.K w x cs → d.K w' x cs) {w w' : World} {A : Option Addr} {n : Nat} {xs : List α} (h : d.C w A n xs) (hb : ∀ ad, A = some ad → 0 < n → ad.block < w.heap.size → w'.heap[ad.block]? = w.heap[ad.block]?) : d.C w' A n xs := by
  refine ⟨h.1, h.2.1, fun h0 => ?_⟩
  obtain ⟨ad, e, hc⟩ := h.2.2 h0
  refine ⟨ad, e, fun j p hp => ?_⟩
  obtain ⟨c, hl, hk, hcell⟩ := hc j p hp
  refine ⟨c, hl, hd w w' p c hk, fun i u hu => ?_⟩
  have hlt := World.block_lt_of_cell? w _ (hcell i u hu)
  rw [add_block_] at hlt
  rw [cell_block_ (w := w) (by rw [add_block_]; exact hb ad e h0 hlt)]
  exact hcell i u hu
theorem Kstr_ : ∀ (w w' : World) x cs, Kd.string.K w x cs → Kd.string.K w' x cs := fun _ _ _ _ h => h
theorem Kkey_ : ∀ (w w' : World) x cs, (k39).K w x cs → (k39).K w' x cs := fun _ _ _ _ h => h
def TagR_ (w : World) (P : Nat → Prop) (t : TagT) (A3 : Option Addr) (c3 : Nat) (A4 : Option Addr) (c4 : Nat) : Prop :=
  Kd.C Kd.string w A3 t.2.2.2.1.length t.2.2.2.1 ∧ t.2.2.2.1.length ≤ c3 ∧ Kd.C k39 w A4 t.2.2.2.2.length t.2.2.2.2 ∧ t.2.2.2.2.length ≤ c4 ∧ (∀ ad, A3 = some ad → 0 < t.2.2.2.1.length → P ad.block) ∧ (∀ ad, A4 = some ad → 0 < t.2.2.2.2.length → P ad.block)
theorem TagR_.same {w w' : World} {P : Nat → Prop} {t : TagT} {A3 : Option Addr} {c3 : Nat} {A4 : Option Addr} {c4 : Nat} (h : TagR_ w P t A3 c3 A4 c4) (hb : ∀ b, P b → b < w.heap.size → w'.heap[b]? = w.heap[b]?) : TagR_ w' P t A3 c3 A4 c4 :=
  ⟨C_same_ Kstr_ h.1 (fun ad e h0 hl => hb _ (h.2.2.2.2.1 ad e h0) hl), h.2.1, C_same_ Kkey_ h.2.2.1 (fun ad e h0 hl => hb _ (h.2.2.2.2.2 ad e h0) hl), h.2.2.2.1, h.2.2.2.2⟩
theorem TagR_.below {w w' : World} {P : Nat → Prop} {t : TagT} {A3 : Option Addr} {c3 : Nat} {A4 : Option Addr} {c4 : Nat} (h : TagR_ w P t A3 c3 A4 c4) (hb : Below w.heap.size w w') : TagR_ w' P t A3 c3 A4 c4 :=
  ⟨Kd.C_below h.1 hb, h.2.1, Kd.C_below h.2.2.1 hb, h.2.2.2.1, h.2.2.2.2⟩
theorem C_lt_ {α : Type} {d : Kd α} {w : World} {A : Option Addr} {xs : List α} (h : d.C w A xs.length xs) (hs : 0 < d.sz) {ad : Addr} (e : A = some ad) (h0 : 0 < xs.length) : ad.block < w.heap.size := by
  obtain ⟨ad', e', hc⟩ := h.2.2 h0
  rw [e] at e'
  obtain rfl := Option.some.inj e'
  obtain ⟨c, hl, _, hcell⟩ := hc 0 _ (List.getElem?_eq_getElem h0)
  have := World.block_lt_of_cell? w _ (hcell 0 _ (List.getElem?_eq_getElem (by omega)))
  rw [add_block_] at this
  exact this
theorem TagR_.mono {w : World} {P P' : Nat → Prop} {t : TagT} {A3 : Option Addr} {c3 : Nat} {A4 : Option Addr} {c4 : Nat} (h : TagR_ w P t A3 c3 A4 c4) (hp : ∀ b, P b → b < w.heap.size → P' b) : TagR_ w P' t A3 c3 A4 c4 :=
  ⟨h.1, h.2.1, h.2.2.1, h.2.2.2.1, fun ad e h0 => hp _ (h.2.2.2.2.1 ad e h0) (C_lt_ h.1 (by decide) e h0), fun ad e h0 => hp _ (h.2.2.2.2.2 ad e h0) (C_lt_ h.2.2.1 (by decide) e h0)⟩
def tag_chain.l0 (m : Nat) : Nat → (ByteArray → Option Int) → List S25 → TagT → Option (List S25 × Int)
  | 0, _, _, _ => none
  | k + 1, hd, acc, t => (tag_text.f m t.1 t.2.1 t.2.2.1 t.2.2.2.1 t.2.2.2.2).bind fun x => if x.size ≤ 9223372036854775807 then (match hd x with
    | some _ => some ([], 6)
    | none => if acc.length < 1000000000000 then (tag_copied.f t.1 t.2.1 t.2.2.1 t.2.2.2.1 t.2.2.2.2).bind fun c => if x.toList = ([117, 110, 100] : List UInt8) then some (acc ++ [⟨c.1, c.2.1, c.2.2.1, c.2.2.2.1, c.2.2.2.2⟩], 0)
      else (tag_parent.f m t.1 t.2.1 t.2.2.1 t.2.2.2.1 t.2.2.2.2).bind fun p => tag_chain.l0 m k (fun q => if q = x then some (acc.length : Int) else hd q) (acc ++ [⟨c.1, c.2.1, c.2.2.1, c.2.2.2.1, c.2.2.2.2⟩]) p else none) else none
theorem NB_ {v v1 : Value} {n b : Nat} (hat : v1.ownBlock = v.ownBlock ∨ ∃ q, v1.ownBlock = some q ∧ n ≤ q) (h1 : some b ≠ v.ownBlock) (h2 : b < n) : some b ≠ v1.ownBlock := by
  rcases hat with h | ⟨q, h, hq⟩
  · rw [h]; exact h1
  · rw [h]
    intro e
    injection e with e
    omega
theorem set5_ {w : World} {g : Nat} {u0 u1 u2 u3 u4 : Value} (b : Nat) (hb : b ≠ g) : (((((w.setCell ⟨g, 0, none⟩ u0).setCell ⟨g, 1, none⟩ u1).setCell ⟨g, 2, none⟩ u2).setCell ⟨g, 3, none⟩ u3).setCell ⟨g, 4, none⟩ u4).heap[b]? = w.heap[b]? := by
  rw [Below.heap_setCell _ _ _ _ hb, Below.heap_setCell _ _ _ _ hb, Below.heap_setCell _ _ _ _ hb, Below.heap_setCell _ _ _ _ hb, Below.heap_setCell _ _ _ _ hb]
theorem PB_ {w : World} {gt gm : Nat} {o : Obj} {A3 A4 : Option Addr} {n3 n4 : Nat} {v : Value} {acc : List S25} {base : Nat} {ok : Nat → Prop} (hg : w.heap[gt]? = some o) (hm : gm < w.heap.size) (hR : Kd.R k25 25 w base ok v acc)
    (h3 : ∀ ad, A3 = some ad → 0 < n3 → (ad.block ≠ gt ∧ ad.block ≠ gm) ∧ some ad.block ≠ v.ownBlock) (h4 : ∀ ad, A4 = some ad → 0 < n4 → (ad.block ≠ gt ∧ ad.block ≠ gm) ∧ some ad.block ≠ v.ownBlock) {ad : Addr}
    (h : ((A3 = some ad ∧ 0 < n3) ∨ (A4 = some ad ∧ 0 < n4)) ∨ w.heap.size ≤ ad.block) : (ad.block ≠ gt ∧ ad.block ≠ gm) ∧ some ad.block ≠ v.ownBlock := by
  rcases h with (⟨e, h0⟩ | ⟨e, h0⟩) | h
  · exact h3 ad e h0
  · exact h4 ad e h0
  · have hl := blk_lt hg
    refine ⟨⟨by omega, by omega⟩, fun e => ?_⟩
    obtain ⟨inner, ho⟩ := Kd.R_own hR
    have := own_lt ho ad.block e.symm
    omega
set_option maxHeartbeats 8000000 in
set_option maxRecDepth 100000 in
theorem tag_chain.calls (n m : Nat) (g : ByteArray → Option Int) (bm nm : Nat) (t0 : TagT) (A30 : Option Addr) (c30 : Nat) (A40 : Option Addr) (c40 : Nat) (Ap : Option Addr) (np cp : Nat) (r1 : List S25) (r2 : Int) (w : World)
    (hT : TagR_ w (fun b => b < w.heap.size) t0 A30 c30 A40 c40) (hm : MapAt w bm nm g) (hgn : ∀ x, g x = none) (h : tag_chain.l0 m n (fun _ => none) [] t0 = some (r1, r2)) :
    Calls Tryz.prog 27 #[.agg #[.string t0.1, .string t0.2.1, .string t0.2.2.1, .slice A30 t0.2.2.2.1.length c30, .slice A40 t0.2.2.2.2.length c40], .map (some bm), .slice Ap np cp] w fun e w' => ∃ v, e = .returned (.tuple #[v, .int .i64 r2]) ∧ Kd.S k25 25 w' w.heap.size (fun _ => True) v r1 ∧ Below w.heap.size w w' := by
  have hu25 := Tryz.underlying25
  have hmm := @run_makeMap Tryz.prog
  have HT := Aside0.mk hT
  have HM := Aside0.mk hm
  have H := Aside0.mk h
  clear hT hm h
  have HB := Aside0.mk (Below.refl w.heap.size w)
  go_enter Tryz.func27, Tryz.ntmps27
  go_wp2_with ((with_reducible refine gate_dst (N := 3) rfl ?_); refine box_event ?hg (N := 3) ?hd (cs := #[.string t0.1, .string t0.2.1, .string t0.2.2.1, .slice A30 t0.2.2.2.1.length c30, .slice A40 t0.2.2.2.2.length c40]) (t := 25) ?hr ?_; (case hd => rfl); (case hg => rfl); (case hr => first | (go_simp; done) | (go_simp; rfl)); intro gt hg w1 hbox hb; have BT := Aside0.mk hbox; have GT := Aside0.mk ((by rw [hg]; exact Nat.le_refl _ : w.heap.size ≤ gt)); replace HT := Aside0.mk (HT.out.below hb); replace HB := Aside0.mk (below_step HB.out hb); clear hb hbox hg)
  have GM := Aside0.mk (below_size HB.out : w.heap.size ≤ w1.heap.size)
  have GL := Aside0.mk (blk_lt BT.out : gt < w1.heap.size)
  go_loopg [9] n (fun kq v9 w' => ∃ (hd : ByteArray → Option Int) (acc : List S25) (t : TagT) (A3 : Option Addr) (c3 : Nat) (A4 : Option Addr) (c4 : Nat), Aside0 (tag_chain.l0 m kq hd acc t = some (r1, r2)) ∧ Aside0 (w'.heap[gt]? = some (.cells #[.string t.1, .string t.2.1, .string t.2.2.1, .slice A3 t.2.2.2.1.length c3, .slice A4 t.2.2.2.2.length c4] 25 (0, 0))) ∧
    Aside0 (TagR_ w' (fun b => (b ≠ gt ∧ b ≠ w1.heap.size) ∧ some b ≠ v9.ownBlock) t A3 c3 A4 c4) ∧ Aside0 (MapAt w' w1.heap.size acc.length hd) ∧ Aside0 (Kd.S k25 25 w' w.heap.size (fun b => b ≠ gt ∧ b ≠ w1.heap.size) v9 acc) ∧ Aside0 (Below w.heap.size w w'))
  case atStart => exact ⟨fun _ => none, [], t0, A30, c30, A40, c40, ⟨H.out⟩, ⟨blk_alloc BT.out _⟩, ⟨(HT.out.below ((Below.refl _ _).alloc (Nat.le_refl _) _)).mono (fun b hb _ => ⟨⟨fun e => by have := GT.out; omega, fun e => by have := GM.out; omega⟩, by simp [Value.ownBlock]⟩)⟩, ⟨MapAt.made w1⟩, ⟨Kd.S_nil _ _ _ _ _⟩, ⟨below_alloc HB.out _⟩⟩
  case round =>
    clear H HT BT HB
    obtain ⟨hd, acc, t, A3, c3, A4, c4, HA, BT2, HT2, HD, HO, HB2⟩ := hrel
    obtain ⟨Ao, co, rfl⟩ := Kd.R_slice (Kd.S_R HO.out)
    obtain ⟨hc0, hc1, hc2, hc3, hc4, hf0, hf1, hf2, hf3, hf4⟩ := c5_ BT2
    cases gk with
    | zero => exact absurd HA.out (by simp [tag_chain.l0])
    | succ k1 =>
      have h := HA.out
      clear HA
      unfold tag_chain.l0 at h
      obtain ⟨x, hx, h⟩ := Option.bind_eq_some_iff.1 h
      have HX := Aside0.mk hx
      clear hx
      by_cases hz : x.size ≤ 9223372036854775807
      · replace h := (if_pos hz).symm.trans h
        have hz' : x.size ≤ maxLen := hz
        have HZ := Aside0.mk hz'
        clear hz hz'
        cases hg : hd x with
        | some i =>
          rw [hg] at h
          have HG := Aside0.mk hg
          obtain h := Option.some.inj h
          obtain ⟨rfl, rfl⟩ : _ ∧ _ := by simpa only [Prod.mk.injEq] using h
          clear h hg
          go_wp2_with (first
            | (go_at_call 40; refine (tag_text.calls m _ _ _ _ _ t.2.2.2.1 _ _ t.2.2.2.2 x _ HT2.out.1 HT2.out.2.1 HT2.out.2.2.1 HT2.out.2.2.2.1 HX.out).mono ?_; rintro e w3 ⟨rfl, hb⟩; replace BT2 := Aside0.mk (blk_below BT2.out hb); replace HT2 := Aside0.mk (HT2.out.below hb); replace HD := Aside0.mk (HD.out.below hb); replace HO := Aside0.mk (Kd.S_below HO.out hb); replace HB2 := Aside0.mk (below_step HB2.out hb); clear hb hc0 hc1 hc2 hc3 hc4 hf0 hf1 hf2 hf3 hf4; obtain ⟨hc0, hc1, hc2, hc3, hc4, hf0, hf1, hf2, hf3, hf4⟩ := c5_ BT2)
            | (at_lookup; refine map_look_ _ rfl _ _ rfl w1.heap.size acc.length hd rfl HD.out x rfl HZ.out ?_; rw [HG.out]))
          go_ret2
          exact ⟨_, rfl, Kd.S_nil _ _ _ _ _, HB2.out⟩
        | none =>
          rw [hg] at h
          have HG := Aside0.mk hg
          clear hg
          by_cases hn : acc.length < 1000000000000
          · replace h := (if_pos hn).symm.trans h
            have HN := Aside0.mk hn
            obtain ⟨c, hc, h⟩ := Option.bind_eq_some_iff.1 h
            have HC := Aside0.mk hc
            have H := Aside0.mk h
            clear hn hc h
            go_upto_if 33 with (first
              | (go_at_call 40; refine (tag_text.calls m _ _ _ _ _ t.2.2.2.1 _ _ t.2.2.2.2 x _ HT2.out.1 HT2.out.2.1 HT2.out.2.2.1 HT2.out.2.2.2.1 HX.out).mono ?_; rintro e w3 ⟨rfl, hb⟩; replace BT2 := Aside0.mk (blk_below BT2.out hb); replace HT2 := Aside0.mk (HT2.out.below hb); replace HD := Aside0.mk (HD.out.below hb); replace HO := Aside0.mk (Kd.S_below HO.out hb); replace HB2 := Aside0.mk (below_step HB2.out hb); clear hb hc0 hc1 hc2 hc3 hc4 hf0 hf1 hf2 hf3 hf4; obtain ⟨hc0, hc1, hc2, hc3, hc4, hf0, hf1, hf2, hf3, hf4⟩ := c5_ BT2)
              | (at_lookup; refine map_look_ _ rfl _ _ rfl w1.heap.size acc.length hd rfl HD.out x rfl HZ.out ?_; rw [HG.out])
              | (at_mapUpdate; refine map_store_ _ rfl _ _ _ rfl w1.heap.size acc.length hd rfl HD.out (by have := HN.out; unfold maxLen; omega) x rfl HZ.out (acc.length : Int) rfl (WalkArith.wf_i64 (by have := HN.out; omega)) ?_; intro w5 hD5 hgr; replace BT2 := Aside0.mk (blk_grown BT2.out hgr (by simp; have := GL.out; omega)); replace HT2 := Aside0.mk (HT2.out.same (fun b hb hl => hgr.block b hl (by simp; exact hb.1.2))); replace HO := Aside0.mk (Kd.S_grown HO.out hgr (fun k hk => by simp; exact hk.2)); replace HB2 := Aside0.mk (HB2.out.grown hgr HB2.out.size (fun j hj => by cases hj; exact GM.out)); have HS5 := Aside0.mk (show gt < w5.heap.size ∧ w1.heap.size < w5.heap.size ∧ w.heap.size ≤ w5.heap.size from ⟨blk_lt BT2.out, hD5.lt, HB2.out.size⟩); replace HD := Aside0.mk hD5; clear hD5 hgr hc0 hc1 hc2 hc3 hc4 hf0 hf1 hf2 hf3 hf4; obtain ⟨hc0, hc1, hc2, hc3, hc4, hf0, hf1, hf2, hf3, hf4⟩ := c5_ BT2)
              | (go_at_call 62; refine (tag_copied.calls t.1 t.2.1 t.2.2.1 A3 c3 t.2.2.2.1 A4 c4 t.2.2.2.2 c.1 c.2.1 c.2.2.1 c.2.2.2.1 c.2.2.2.2 _ HT2.out.1 HT2.out.2.1 HT2.out.2.2.1 HT2.out.2.2.2.1 HC.out).mono ?_; rintro e w6 ⟨v3, v4, rfl, hR3, hR4, hb⟩; have HR3 := Aside0.mk hR3; have HR4 := Aside0.mk hR4; have OB := Aside0.mk (fun k (hk : some k = (Value.slice Ao acc.length co).ownBlock) => (by obtain ⟨inner, ho⟩ := Kd.R_own (Kd.S_R HO.out); exact own_lt ho k hk.symm : k < w5.heap.size)); have H56 := Aside0.mk hb.size; replace BT2 := Aside0.mk (blk_below BT2.out hb); replace HT2 := Aside0.mk (HT2.out.below hb); replace HD := Aside0.mk (HD.out.below hb); replace HO := Aside0.mk (Kd.S_mono (ok' := fun k => (k ≠ gt ∧ k ≠ w1.heap.size) ∧ ¬ w5.heap.size ≤ k) (Kd.S_old HO.out hb) (fun k hk => ⟨hk.1, Nat.not_le.2 hk.2⟩)); replace HB2 := Aside0.mk (below_step HB2.out hb); clear hb hR3 hR4 hc0 hc1 hc2 hc3 hc4 hf0 hf1 hf2 hf3 hf4)
              | ((with_reducible refine gate_builtin (b := .append) (xs := #[.tmp 27, .tmp 30]) rfl ?_); at_builtin; refine Kd.S_append k25 (w0 := w) w.heap.size rfl (.tmp 27) (.tmp 30) 26 25 (.agg #[(.string ⟨#[]⟩), (.string ⟨#[]⟩), (.string ⟨#[]⟩), (.slice none 0 0), (.slice none 0 0)]) 96 rfl Tryz.underlying26 info25 rfl (by decide) (by omega) (.slice Ao acc.length co) acc (⟨c.1, c.2.1, c.2.2.1, c.2.2.2.1, c.2.2.2.2⟩ : S25) [.string c.1, .string c.2.1, .string c.2.2.1, v3, v4] (fun b => b ≠ gt ∧ b ≠ w1.heap.size) (fun k => w5.heap.size ≤ k) rfl (by first | (go_simp; done) | (go_simp; rfl)) ?aP ?aQ ?aF ?aO ?aB ?aS ?aL ?_; (case aP => exact k25_mkM _ _ _ (⟨c.1, c.2.1, c.2.2.1, c.2.2.2.1, c.2.2.2.2⟩ : S25) (Kd.R_lower (Kd.R_mono (Kd.R_bound HR3.out) (fun k hk => hk.2.1)) HS5.out.2.2) (Kd.R_lower (Kd.R_mono (Kd.R_bound HR4.out) (fun k hk => hk.2.1)) HS5.out.2.2)); (case aQ => exact (fun k hk => ⟨⟨fun e => by have := HS5.out.1; omega, fun e => by have := HS5.out.2.1; omega⟩, fun e => by have := OB.out k e; omega⟩)); (case aF => exact (fun k hk => ⟨fun e => by have := HS5.out.1; have := H56.out; omega, fun e => by have := HS5.out.2.1; have := H56.out; omega⟩)); (case aO => exact HO.out); (case aB => exact HB2.out); (case aS => exact HB2.out.size); (case aL => exact (by have := HN.out; omega)); intro v1 w7 hR hb hg hat; have HNE := Aside0.mk (fun k (hk : some k = v1.ownBlock) => ((Kd.S_R hR).1 k hk.symm : k ≠ gt ∧ k ≠ w1.heap.size)); replace BT2 := Aside0.mk (blk_grown BT2.out hg (fun e => ((Kd.S_R HO.out).1 gt e.symm).1.1 rfl)); replace HT2 := Aside0.mk (((HT2.out.mono (P' := fun b => ((b ≠ gt ∧ b ≠ w1.heap.size) ∧ some b ≠ (Value.slice Ao acc.length co).ownBlock) ∧ b < w6.heap.size) (fun b hb hl => ⟨hb, hl⟩)).same (fun b hb hl => hg.block b hl hb.1.2)).mono (P' := fun b => (b ≠ gt ∧ b ≠ w1.heap.size) ∧ some b ≠ v1.ownBlock) (fun b hb _ => ⟨hb.1.1, NB_ hat hb.1.2 hb.2⟩)); replace HD := Aside0.mk (HD.out.same (hg.block _ HD.out.lt (fun e => ((Kd.S_R HO.out).1 _ e.symm).1.2 rfl))); have HO7 := Aside0.mk hR; replace HB2 := Aside0.mk hb; clear hR hb hg hat; obtain ⟨hc0, hc1, hc2, hc3, hc4, hf0, hf1, hf2, hf3, hf4⟩ := c5_ BT2))
            by_cases hu : x.toList = ([117, 110, 100] : List UInt8)
            · have e1 : (x.toList == ([117, 110, 100] : List UInt8)) = true := beq_iff_eq.mpr hu
              rw [e1]
              obtain h := Option.some.inj ((if_pos hu).symm.trans H.out)
              obtain ⟨rfl, rfl⟩ : _ ∧ _ := by simpa only [Prod.mk.injEq] using h
              clear H hu h
              go_wp2
              go_ret2
              exact ⟨_, rfl, Kd.S_mono HO7.out (fun _ _ => trivial), HB2.out⟩
            · have e1 : (x.toList == ([117, 110, 100] : List UInt8)) = false := beq_eq_false_iff_ne.mpr hu
              rw [e1]
              have h := (if_neg hu).symm.trans H.out
              obtain ⟨p, hp, h⟩ := Option.bind_eq_some_iff.1 h
              have HPA := Aside0.mk hp
              replace H := Aside0.mk h
              clear hu hp h
              go_wp2_with ((go_at_call 63; refine (tag_parent.calls m g bm nm t.1 t.2.1 t.2.2.1 A3 c3 t.2.2.2.1 A4 c4 t.2.2.2.2 Ap np cp p _ HT2.out.1 HT2.out.2.1 HT2.out.2.2.1 HT2.out.2.2.2.1 (HM.out.below HB2.out) hgn HPA.out).mono ?_; rintro e w8 ⟨v8, rfl, ⟨X3, y3, X4, y4, rfl, q1, q2, q3, q4, q5, q6⟩, hb⟩; have HQ := Aside0.mk (show TagR_ w8 (fun b => (b ≠ gt ∧ b ≠ w1.heap.size) ∧ some b ≠ v1.ownBlock) p X3 y3 X4 y4 from ⟨q1, q2, q3, q4, fun ad e h0 => PB_ BT2.out HD.out.lt (Kd.S_R HO7.out) HT2.out.2.2.2.2.1 HT2.out.2.2.2.2.2 (q5 ad e h0), fun ad e h0 => PB_ BT2.out HD.out.lt (Kd.S_R HO7.out) HT2.out.2.2.2.2.1 HT2.out.2.2.2.2.2 (q6 ad e h0)⟩); replace BT2 := Aside0.mk (blk_below BT2.out hb); replace HD := Aside0.mk (HD.out.below hb); replace HO7 := Aside0.mk (Kd.S_below HO7.out hb); replace HB2 := Aside0.mk (below_step HB2.out hb); clear hb q1 q2 q3 q4 q5 q6 hc0 hc1 hc2 hc3 hc4 hf0 hf1 hf2 hf3 hf4; obtain ⟨hc0, hc1, hc2, hc3, hc4, hf0, hf1, hf2, hf3, hf4⟩ := c5_ BT2))
              go_roundg k1
              case measure => omega
              case rel => exact ⟨_, _, p, X3, y3, X4, y4, ⟨H.out⟩, ⟨TgB.put BT2.out⟩, ⟨HQ.out.same (fun b hb _ => set5_ b hb.1.1)⟩, ⟨MapAt.mono (HD.out.same (set5_ _ (by have := GL.out; omega))) (by simp)⟩, ⟨Kd.S_far (Kd.S_far (Kd.S_far (Kd.S_far (Kd.S_far HO7.out (p := ⟨gt, 0, none⟩) (fun k hk => hk.1) _) (p := ⟨gt, 1, none⟩) (fun k hk => hk.1) _) (p := ⟨gt, 2, none⟩) (fun k hk => hk.1) _) (p := ⟨gt, 3, none⟩) (fun k hk => hk.1) _) (p := ⟨gt, 4, none⟩) (fun k hk => hk.1) _⟩, ⟨below_set (below_set (below_set (below_set (below_set HB2.out GT.out) GT.out) GT.out) GT.out) GT.out⟩⟩
          · replace h := (if_neg hn).symm.trans h
            cases h
      · replace h := (if_neg hz).symm.trans h
        cases h
end Go.Proofs.YtphjhbppjakocaaGreatDoor.PTag
namespace Go.Proofs.YtphjhbppjakocaaGreatDoor.PTag
open Go.RowKit Go.Proofs.YtphjhbppjakocaaGreatDoorW.PrintWords Go.Proofs.YtphjhbppjakocaaGreatDoorW.PrintLast Go.Proofs.YtphjhbppjakocaaGreatDoorW.PrintMore Go.WideShapes Go.ChangeMaps
set_option linter.unusedVariables false
set_option linter.unusedSimpArgs false
set_option maxHeartbeats 8000000 in
set_option maxRecDepth 100000 in
theorem tag_places.calls (Ap : Option Addr) (cp : Nat) (w : World) :
    Calls Tryz.prog 26 #[.slice Ap 0 cp] w fun x w' => ∃ b n, x = .returned (.tuple #[.map (some b), .int .i64 0]) ∧ MapAt w' b n (fun _ => none) ∧ Below w.heap.size w w' := by
  have hmm := @run_makeMap Tryz.prog
  have HB := Aside0.mk (Below.refl w.heap.size w)
  go_enter Tryz.func26, Tryz.ntmps26
  go_wp2
  go_loopg [19] 0 (fun kq v19 w' => v19 = .int .i64 0 ∧ Aside0 (MapAt w' w.heap.size 0 (fun _ => none)) ∧ Aside0 (Below w.heap.size w w'))
  case atStart => exact ⟨rfl, ⟨MapAt.made w⟩, ⟨below_alloc HB.out _⟩⟩
  case round =>
    obtain ⟨rfl, HD, HB2⟩ := hrel
    go_wp2
    go_ret2
    exact ⟨_, _, rfl, HD.out, HB2.out⟩
end Go.Proofs.YtphjhbppjakocaaGreatDoor.PTag
namespace Go.Proofs.YtphjhbppjakocaaGreatDoor.PTag
open Go.RowKit Go.Proofs.YtphjhbppjakocaaGreatDoorW.PrintWords Go.Proofs.YtphjhbppjakocaaGreatDoorW.PrintLast Go.Proofs.YtphjhbppjakocaaGreatDoorW.PrintMore Go.WideShapes Go.ChangeMaps
set_option linter.unusedVariables false
set_option linter.unusedSimpArgs false
def tag_Chain.f (k : Nat) (a0_0 : ByteArray) (a0_1 : ByteArray) (a0_2 : ByteArray) (l0_3 : List ByteArray) (l0_4 : List S39) (l1 : List S45) : Option ((List S25) × Int) :=
  if l1.length = 0 then (tag_Check.f k a0_0 a0_1 a0_2 l0_3 l0_4).bind fun e => if e = 0 then tag_chain.l0 k k (fun _ => none) [] (a0_0, a0_1, a0_2, l0_3, l0_4) else some ([], e) else none
set_option maxHeartbeats 8000000 in
set_option maxRecDepth 100000 in
theorem tag_Chain.calls (k : Nat) (a0_0 : ByteArray) (a0_1 : ByteArray) (a0_2 : ByteArray) (A0_3 : Option Addr) (c0_3 : Nat) (l0_3 : List ByteArray) (A0_4 : Option Addr) (c0_4 : Nat) (l0_4 : List S39) (A1 : Option Addr) (c1 : Nat) (l1 : List S45) (r1 : List S25) (r2 : Int) (w : World) (hr0_3 : Kd.C Kd.string w A0_3 l0_3.length l0_3) (hc0_3 : l0_3.length ≤ c0_3) (hr0_4 : Kd.C k39 w A0_4 l0_4.length l0_4) (hc0_4 : l0_4.length ≤ c0_4) (hr1 : Kd.C k45 w A1 l1.length l1) (hc1 : l1.length ≤ c1) (hT : Tbl w) (h : tag_Chain.f k a0_0 a0_1 a0_2 l0_3 l0_4 l1 = some (r1, r2)) :
    Calls Tryz.prog 10 #[.agg #[.string a0_0, .string a0_1, .string a0_2, .slice A0_3 l0_3.length c0_3, .slice A0_4 l0_4.length c0_4], .slice A1 l1.length c1] w fun e w' => ∃ v0_ : Value, e = .returned (.tuple #[v0_, .int .i64 r2]) ∧ Kd.S k25 25 w' w.heap.size (fun _ => True) v0_ r1 ∧ Below w.heap.size w w' := by
  have hu25 := Tryz.underlying25
  have HV := Aside0.mk hr0_3
  have HK := Aside0.mk hr0_4
  have HT := Aside0.mk hT
  have HB := Aside0.mk (Below.refl w.heap.size w)
  clear hr0_3 hr0_4 hr1 hT
  unfold tag_Chain.f at h
  by_cases hn : l1.length = 0
  case neg => cases (if_neg hn).symm.trans h
  replace h := (if_pos hn).symm.trans h
  rw [hn] at hc1 ⊢
  obtain ⟨e, he, h⟩ := Option.bind_eq_some_iff.1 h
  have HE := Aside0.mk he
  clear he
  by_cases h0 : e = 0
  · replace h := (if_pos h0).symm.trans h
    subst h0
    · have H := Aside0.mk h
      clear h
      go_enter Tryz.func10, Tryz.ntmps10
      go_wp2_with (first
        | ((with_reducible refine gate_dst (N := 2) rfl ?_); refine box_event ?hg (N := 2) ?hd (cs := #[.string a0_0, .string a0_1, .string a0_2, .slice A0_3 l0_3.length c0_3, .slice A0_4 l0_4.length c0_4]) (t := 25) ?hr ?_; (case hd => rfl); (case hg => rfl); (case hr => first | (go_simp; done) | (go_simp; rfl)); intro gt hg w1 hbox hb; have BT := Aside0.mk hbox; replace HB := Aside0.mk (below_step HB.out hb); clear hb hbox hg; obtain ⟨hc0, hc1', hc2, hc3, hc4, hf0, hf1, hf2, hf3, hf4⟩ := c5_ BT)
        | (go_at_call 24; refine (tag_Check.calls k a0_0 a0_1 a0_2 A0_3 c0_3 l0_3 A0_4 c0_4 l0_4 0 _ (Kd.C_below HV.out HB.out) hc0_3 (Kd.C_below HK.out HB.out) hc0_4 (Tbl.below HT.out HB.out) HE.out).mono ?_; rintro e w2 ⟨rfl, hb⟩; replace BT := Aside0.mk (blk_below BT.out hb); replace HB := Aside0.mk (below_step HB.out hb); clear hb hc0 hc1' hc2 hc3 hc4 hf0 hf1 hf2 hf3 hf4; obtain ⟨hc0, hc1', hc2, hc3, hc4, hf0, hf1, hf2, hf3, hf4⟩ := c5_ BT)
        | (go_at_call 26; refine (tag_places.calls A1 c1 _).mono ?_; rintro e w3 ⟨b, n, rfl, hm, hb⟩; have HM := Aside0.mk hm; replace BT := Aside0.mk (blk_below BT.out hb); replace HB := Aside0.mk (below_step HB.out hb); clear hm hb hc0 hc1' hc2 hc3 hc4 hf0 hf1 hf2 hf3 hf4; obtain ⟨hc0, hc1', hc2, hc3, hc4, hf0, hf1, hf2, hf3, hf4⟩ := c5_ BT)
        | (go_at_call 27; refine (tag_chain.calls k k (fun _ => none) b n (a0_0, a0_1, a0_2, l0_3, l0_4) A0_3 c0_3 A0_4 c0_4 A1 0 c1 r1 r2 _ (TagR_.mono (P := fun _ => True) ⟨Kd.C_below HV.out HB.out, hc0_3, Kd.C_below HK.out HB.out, hc0_4, fun _ _ _ => trivial, fun _ _ _ => trivial⟩ (fun b _ hl => hl)) HM.out (fun _ => rfl) H.out).mono ?_; rintro e w4 ⟨v, rfl, hR, hb⟩; have HR := Aside0.mk (Kd.S_lower hR (below_size HB.out)); replace HB := Aside0.mk (below_step HB.out hb); clear hR hb hc0 hc1' hc2 hc3 hc4 hf0 hf1 hf2 hf3 hf4))
      go_ret2
      exact ⟨_, rfl, HR.out, HB.out⟩
  · obtain h := Option.some.inj ((if_neg h0).symm.trans h)
    obtain ⟨rfl, rfl⟩ : _ ∧ _ := by simpa only [Prod.mk.injEq] using h
    have d1 : (e == 0) = false := beq_eq_false_iff_ne.mpr h0
    have d2 : (e != 0) = true := bne_iff_ne.mpr h0
    clear h
    go_enter Tryz.func10, Tryz.ntmps10
    go_wp2_with (first
      | ((with_reducible refine gate_dst (N := 2) rfl ?_); refine box_event ?hg (N := 2) ?hd (cs := #[.string a0_0, .string a0_1, .string a0_2, .slice A0_3 l0_3.length c0_3, .slice A0_4 l0_4.length c0_4]) (t := 25) ?hr ?_; (case hd => rfl); (case hg => rfl); (case hr => first | (go_simp; done) | (go_simp; rfl)); intro gt hg w1 hbox hb; have BT := Aside0.mk hbox; replace HB := Aside0.mk (below_step HB.out hb); clear hb hbox hg; obtain ⟨hc0, hc1', hc2, hc3, hc4, hf0, hf1, hf2, hf3, hf4⟩ := c5_ BT)
      | (go_at_call 24; refine (tag_Check.calls k a0_0 a0_1 a0_2 A0_3 c0_3 l0_3 A0_4 c0_4 l0_4 e _ (Kd.C_below HV.out HB.out) hc0_3 (Kd.C_below HK.out HB.out) hc0_4 (Tbl.below HT.out HB.out) HE.out).mono ?_; rintro e w2 ⟨rfl, hb⟩; replace HB := Aside0.mk (below_step HB.out hb); clear hb hc0 hc1' hc2 hc3 hc4 hf0 hf1 hf2 hf3 hf4))
    go_ret2
    exact ⟨_, rfl, Kd.S_nil _ _ _ _ _, HB.out⟩
end Go.Proofs.YtphjhbppjakocaaGreatDoor.PTag
