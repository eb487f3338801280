/- Rows that may be written anew, and the tags of a chain as such; Print comes back; conditions: those that each theorem states. -/
import Derived.Test.YtphjhbppjakocaaGreatDoorQRchain
namespace Go.Proofs.YtphjhbppjakocaaGreatDoor.PTag
open Go.RowKit Go.Proofs.YtphjhbppjakocaaGreatDoorW.PrintWords Go.Proofs.YtphjhbppjakocaaGreatDoorW.PrintLast Go.Proofs.YtphjhbppjakocaaGreatDoorW.PrintMore Go.WideShapes Go.ChangeMaps
set_option linter.unusedVariables false
set_option linter.unusedSimpArgs false
theorem setCell_blk_ {w : World} {b : Nat} {cs : Array Value} {t : TypeId} (h : w.heap[b]? = some (.cells cs t (0, 0))) (p : Addr) (u : Value) : ∃ cs', cs'.size = cs.size ∧ (w.setCell p u).heap[b]? = some (.cells cs' t (0, 0)) := by
  by_cases e : p.block = b
  · subst e
    refine ⟨if p.spot.isSome then cs else cs.setIfInBounds p.off u, by split <;> simp, ?_⟩
    simp [World.setCell, Array.getElem?_modify, h]
  · exact ⟨cs, rfl, blk_far h (fun h => e h.symm) u⟩
/-- A row that may be written: n things of sz cells. -/
def Rw_ (w : World) (base e sz : Nat) (A : Option Addr) (n : Nat) : Prop := n ≤ maxLen ∧ (0 < n → ∃ ad cur, A = some ad ∧ ad.off = 0 ∧ ad.spot = none ∧ base ≤ ad.block ∧ w.heap[ad.block]? = some (.cells cur e (0, 0)) ∧ n * sz ≤ cur.size)
theorem Rw_.set {w : World} {base e sz : Nat} {A : Option Addr} {n : Nat} (h : Rw_ w base e sz A n) (p : Addr) (u : Value) : Rw_ (w.setCell p u) base e sz A n :=
  ⟨h.1, fun h0 => by
    obtain ⟨ad, cur, e1, e2, e3, hb, hh, hs⟩ := h.2 h0
    obtain ⟨cs', h1, h2⟩ := setCell_blk_ hh p u
    exact ⟨ad, cs', e1, e2, e3, hb, h2, by rw [h1]; exact hs⟩⟩
theorem Rw_.of {α : Type} {d : Kd α} {e base : Nat} {ok : Nat → Prop} {w : World} {v : Value} {xs : List α} (h : d.R e w base ok v xs) : ∃ A c, v = .slice A xs.length c ∧ Rw_ w base e d.sz A xs.length := by
  obtain ⟨inner, ho⟩ := Kd.R_own h
  rcases ho.2 with ⟨rfl, h0⟩ | ⟨g, cap, cur, rfl, hg, hh, h1, h2, h3, _⟩
  · exact ⟨none, 0, by rw [h0], by rw [h0]; exact Nat.zero_le _, fun h => by omega⟩
  · exact ⟨some ⟨g, 0, none⟩, cap, rfl, Nat.le_trans h1 h2, fun _ => ⟨⟨g, 0, none⟩, cur, rfl, rfl, rfl, hg, hh, by rw [h3]; exact Nat.mul_le_mul_right _ h1⟩⟩
theorem add_off_ (ad : Addr) (j : Nat) : (ad.add j).off = ad.off + j := by
  unfold Addr.add
  split
  · omega
  · rfl
theorem add_spot_ {ad : Addr} (h : ad.spot = none) (j : Nat) : (ad.add j).spot = none := by
  unfold Addr.add
  split
  · exact h
  · rfl
theorem blk_at_ {w : World} {p : Addr} {cs : Array Value} {t : TypeId} (h : w.heap[p.block]? = some (.cells cs t (0, 0))) (hs : p.spot = none) : w.cell? p = cs[p.off]? ∧ w.frozen? p = false := by
  unfold World.cell? World.frozen?
  rw [h]
  simp [hs]
theorem Rw_.at1 {w : World} {base e : Nat} {A : Option Addr} {n : Nat} (h : Rw_ w base e 1 A n) {k : Nat} (hk : k < n) : ∃ ad u cs, A = some ad ∧ w.cell? (ad.add k) = some u ∧ w.frozen? (ad.add k) = false ∧ base ≤ (ad.add k).block ∧ w.heap[(ad.add k).block]? = some (.cells cs e (0, 0)) := by
  obtain ⟨ad, cur, e1, e2, e3, hb, hh, hs⟩ := h.2 (by omega)
  have hB := add_block_ ad k
  obtain ⟨c, f⟩ := blk_at_ (p := ad.add k) (by rw [hB]; exact hh) (add_spot_ e3 k)
  rw [add_off_, e2, Nat.zero_add, Array.getElem?_eq_getElem (show k < cur.size by omega)] at c
  exact ⟨ad, _, cur, e1, c, f, by rw [hB]; exact hb, by rw [hB]; exact hh⟩
theorem next_cell_ {w : World} {p : Addr} {cs : Array Value} {t : TypeId} (h : w.heap[p.block]? = some (.cells cs t (0, 0))) (v : Value) : (w.setCell p v).cell? ⟨p.block, p.off + 1, none⟩ = w.cell? ⟨p.block, p.off + 1, none⟩ ∧ (w.setCell p v).frozen? ⟨p.block, p.off + 1, none⟩ = false := by
  have e : (w.setCell p v).heap[p.block]? = some (.cells (if p.spot.isSome then cs else cs.setIfInBounds p.off v) t (0, 0)) := by simp [World.setCell, Array.getElem?_modify, h]
  obtain ⟨c1, f1⟩ := blk_at_ (p := ⟨p.block, p.off + 1, none⟩) e rfl
  obtain ⟨c2, _⟩ := blk_at_ (p := ⟨p.block, p.off + 1, none⟩) h rfl
  refine ⟨c1.trans (Eq.trans ?_ c2.symm), f1⟩
  split
  · rfl
  · exact Array.getElem?_setIfInBounds_ne (by show p.off ≠ p.off + 1; omega)
theorem Rw_.at2 {w : World} {base e : Nat} {A : Option Addr} {n : Nat} (h : Rw_ w base e 2 A n) {k : Nat} (hk : k < n) : ∃ ad u u' cs, A = some ad ∧ w.cell? (ad.add (k * 2)) = some u ∧ w.cell? ⟨(ad.add (k * 2)).block, (ad.add (k * 2)).off + 1, none⟩ = some u' ∧ w.frozen? (ad.add (k * 2)) = false ∧ w.frozen? ⟨(ad.add (k * 2)).block, (ad.add (k * 2)).off + 1, none⟩ = false ∧ (∀ v, (w.setCell (ad.add (k * 2)) v).cell? ⟨(ad.add (k * 2)).block, (ad.add (k * 2)).off + 1, none⟩ = some u') ∧ (∀ v, (w.setCell (ad.add (k * 2)) v).frozen? ⟨(ad.add (k * 2)).block, (ad.add (k * 2)).off + 1, none⟩ = false) ∧ base ≤ (ad.add (k * 2)).block ∧ w.heap[(ad.add (k * 2)).block]? = some (.cells cs e (0, 0)) := by
  obtain ⟨ad, cur, e1, e2, e3, hb, hh, hs⟩ := h.2 (by omega)
  have hB := add_block_ ad (k * 2)
  obtain ⟨c, f⟩ := blk_at_ (p := ad.add (k * 2)) (by rw [hB]; exact hh) (add_spot_ e3 _)
  obtain ⟨c', f'⟩ := blk_at_ (p := ⟨(ad.add (k * 2)).block, (ad.add (k * 2)).off + 1, none⟩) (by show w.heap[(ad.add (k * 2)).block]? = _; rw [hB]; exact hh) rfl
  rw [add_off_, e2, Nat.zero_add, Array.getElem?_eq_getElem (show k * 2 < cur.size by omega)] at c
  have ho : (ad.add (k * 2)).off = k * 2 := by rw [add_off_, e2, Nat.zero_add]
  have c2 : cur[(ad.add (k * 2)).off + 1]? = some (cur[k * 2 + 1]'(by omega)) := by rw [ho]; exact Array.getElem?_eq_getElem _
  have hh2 : w.heap[(ad.add (k * 2)).block]? = some (.cells cur e (0, 0)) := by rw [hB]; exact hh
  exact ⟨ad, _, _, cur, e1, c, c'.trans c2, f, f', fun v => (next_cell_ hh2 v).1.trans (c'.trans c2), fun v => (next_cell_ hh2 v).2, by rw [hB]; exact hb, hh2⟩
/-- The tags of a chain, as rows that may be written. -/
def Tg_ (w : World) (base : Nat) (ad : Addr) (n : Nat) (cur : Array Value) : Prop := ad.off = 0 ∧ w.heap[ad.block]? = some (.cells cur 25 (0, 0)) ∧ ∀ i, i < n → ∃ A3 n3 c3 A4 n4 c4, cur[i * 5 + 3]? = some (.slice A3 n3 c3) ∧ cur[i * 5 + 4]? = some (.slice A4 n4 c4) ∧ Rw_ w base 9 1 A3 n3 ∧ Rw_ w base 39 2 A4 n4
theorem Tg_.set {w : World} {base : Nat} {ad : Addr} {n : Nat} {cur : Array Value} (h : Tg_ w base ad n cur) {p : Addr} {cs : Array Value} {t : Nat} (hb : w.heap[p.block]? = some (.cells cs t (0, 0))) (ht : 25 ≠ t) (u : Value) : Tg_ (w.setCell p u) base ad n cur :=
  ⟨h.1, blk_far h.2.1 (blk_ne h.2.1 hb ht) u, fun i hi => by
    obtain ⟨A3, n3, c3, A4, n4, c4, a, b, c, d⟩ := h.2.2 i hi
    exact ⟨A3, n3, c3, A4, n4, c4, a, b, c.set p u, d.set p u⟩⟩
theorem Tg_.set2 {w : World} {base : Nat} {ad : Addr} {n : Nat} {cur : Array Value} (h : Tg_ w base ad n cur) {p : Addr} {cs : Array Value} {t : Nat} (hb : w.heap[p.block]? = some (.cells cs t (0, 0))) (ht : 25 ≠ t) (o : Nat) (u u' : Value) : Tg_ ((w.setCell p u).setCell ⟨p.block, o, none⟩ u') base ad n cur := by
  obtain ⟨cs', _, h2⟩ := setCell_blk_ hb p u
  exact (h.set hb ht u).set (p := ⟨p.block, o, none⟩) h2 ht u'
theorem Tg_.cell {w : World} {base : Nat} {ad : Addr} {n : Nat} {cur : Array Value} (h : Tg_ w base ad n cur) {i j : Nat} {v : Value} (e : cur[i * 5 + j]? = some v) : w.cell? ⟨(ad.add (i * 5)).block, (ad.add (i * 5)).off + j, none⟩ = some v := by
  have hB := add_block_ ad (i * 5)
  obtain ⟨c, _⟩ := blk_at_ (p := ⟨(ad.add (i * 5)).block, (ad.add (i * 5)).off + j, none⟩) (by show w.heap[(ad.add (i * 5)).block]? = _; rw [hB]; exact h.2.1) rfl
  have ho : (ad.add (i * 5)).off = i * 5 := by rw [add_off_, h.1, Nat.zero_add]
  refine c.trans ?_
  show cur[(ad.add (i * 5)).off + j]? = _
  rw [ho]
  exact e
theorem Tg_.rows {w : World} {base : Nat} {ad : Addr} {n : Nat} {cur : Array Value} (h : Tg_ w base ad n cur) {i : Nat} (hi : i < n) {A3 A4 : Option Addr} {n3 c3 n4 c4 : Nat} (e3 : cur[i * 5 + 3]? = some (.slice A3 n3 c3)) (e4 : cur[i * 5 + 4]? = some (.slice A4 n4 c4)) : Rw_ w base 9 1 A3 n3 ∧ Rw_ w base 39 2 A4 n4 := by
  obtain ⟨B3, m3, d3, B4, m4, d4, a, b, c, d⟩ := h.2.2 i hi
  rw [e3] at a
  rw [e4] at b
  injection a with a
  injection b with b
  injection a with a1 a2 a3
  injection b with b1 b2 b3
  subst a1 a2 b1 b2
  exact ⟨c, d⟩
theorem Tg_.of {w : World} {base : Nat} {ok : Nat → Prop} {v : Value} {xs : List S25} (h : Kd.R k25 25 w base ok v xs) : ∃ A c ad cur, v = .slice A xs.length c ∧ xs.length ≤ maxLen ∧ (0 < xs.length → A = some ad ∧ Tg_ w base ad xs.length cur) := by
  obtain ⟨_, inner, ho, hr⟩ := h
  rcases ho.2 with ⟨rfl, h0⟩ | ⟨g, cap, cur, rfl, hg, hh, h1, h2, h3, h4⟩
  · exact ⟨none, 0, ⟨0, 0, none⟩, #[], by rw [h0], by rw [h0]; exact Nat.zero_le _, fun h => by omega⟩
  · refine ⟨some ⟨g, 0, none⟩, cap, ⟨g, 0, none⟩, cur, rfl, Nat.le_trans h1 h2, fun _ => ⟨rfl, rfl, hh, fun i hi => ?_⟩⟩
    have hM := hr.2 i _ (List.getElem?_eq_getElem hi)
    obtain ⟨_, _, hcs, rfl, ⟨_, _, rfl, rfl, ⟨_, _, rfl, rfl, ⟨_, _, rfl, ⟨v3, rfl, R3⟩, ⟨v4, rfl, R4⟩⟩⟩⟩⟩ := hM
    obtain ⟨A3, c3, rfl, W3⟩ := Rw_.of R3
    obtain ⟨A4, c4, rfl, W4⟩ := Rw_.of R4
    have h5 : cur.toList.take (xs.length * 5) = inner := h4
    have get : ∀ j : Nat, j < 5 → ((inner.drop (i * 5)).take 5)[j]? = cur[i * 5 + j]? := by
      intro j hj
      rw [List.getElem?_take, if_pos hj, List.getElem?_drop, ← h5, List.getElem?_take, if_pos (show i * 5 + j < xs.length * 5 by omega), Array.getElem?_toList]
    have hcs' : (inner.drop (i * 5)).take 5 = _ := hcs
    exact ⟨A3, _, c3, A4, _, c4, (get 3 (by omega)).symm.trans (by rw [hcs']; rfl), (get 4 (by omega)).symm.trans (by rw [hcs']; rfl), W3, W4⟩
set_option maxHeartbeats 8000000 in
set_option maxRecDepth 100000 in
/-- Print comes back. -/
theorem tag_Print.back (k : Nat) (l s r : ByteArray) (A3 : Option Addr) (c3 : Nat) (V : List ByteArray) (A4 : Option Addr) (c4 : Nat) (K : List S39) (q : ByteArray × Int) (w : World) (hV : Kd.C Kd.string w A3 V.length V) (cV : V.length ≤ c3) (hK : Kd.C k39 w A4 K.length K) (cK : K.length ≤ c4) (hT : Tbl w) (h : tag_Print.f k l s r V K = some q) :
    Calls Tryz.prog 17 #[.agg #[.string l, .string s, .string r, .slice A3 V.length c3, .slice A4 K.length c4]] w fun e w' => (∃ v, e = .returned v) ∧ Below w.heap.size w w' := by
  obtain ⟨q1, q2⟩ := q
  by_cases hr : q2 = 0
  · exact (tag_Print.calls k l s r A3 c3 V A4 c4 K q1 q2 w hV cV hK cK hT h hr).mono fun e w' h => ⟨⟨_, h.1⟩, h.2⟩
  · have hu25 := Tryz.underlying25
    have HV := ak_ hV
    have HK := ak_ hK
    have HT := ak_ hT
    have HB := ak_ (Below.refl w.heap.size w)
    clear hV hK hT
    unfold tag_Print.f at h
    obtain ⟨e, he, h⟩ := Option.bind_eq_some_iff.1 h
    have HE := ak_ he
    clear he
    by_cases h0 : e = 0
    · subst h0
      obtain ⟨t, ht, h⟩ := Option.bind_eq_some_iff.1 ((if_pos rfl).symm.trans h)
      have HX := ak_ ht
      clear ht
      by_cases h5 : (t.size : Int) > 65536
      · have d1 : decide (65536 < (t.size : Int)) = true := decide_eq_true h5
        have d2 : decide (65536 < t.size) = true := decide_eq_true (by omega)
        clear h
        go_enter Tryz.func17, Tryz.ntmps17
        go_wp2_with (first
          | ((with_reducible refine gate_dst (N := 1) rfl ?_); refine bx_ 1 #[.string l, .string s, .string r, .slice A3 V.length c3, .slice A4 K.length c4] 25 ?_; intro gt hg w1 hbox hb; have BT := ak_ hbox; replace HB := ak_ (below_step HB.out hb); clear hb hbox hg; obtain ⟨hc0, hc1, hc2, hc3, hc4, hf0, hf1, hf2, hf3, hf4⟩ := c5_ BT)
          | (go_at_call 24; refine (tag_Check.calls k l s r A3 c3 V A4 c4 K 0 _ (Kd.C_below HV.out HB.out) cV (Kd.C_below HK.out HB.out) cK (Tbl.below HT.out HB.out) HE.out).mono ?_; rintro _ w2 ⟨rfl, hb⟩; replace BT := ak_ (blk_below BT.out hb); replace HB := ak_ (below_step HB.out hb); clear hb hc0 hc1 hc2 hc3 hc4 hf0 hf1 hf2 hf3 hf4; obtain ⟨hc0, hc1, hc2, hc3, hc4, hf0, hf1, hf2, hf3, hf4⟩ := c5_ BT)
          | (go_at_call 40; refine (tag_text.calls k l s r A3 c3 V A4 c4 K t _ (Kd.C_below HV.out HB.out) cV (Kd.C_below HK.out HB.out) cK HX.out).mono ?_; rintro _ w3 ⟨rfl, hb⟩; replace HB := ak_ (below_step HB.out hb); clear hb hc0 hc1 hc2 hc3 hc4 hf0 hf1 hf2 hf3 hf4))
        go_ret2
        exact ⟨⟨_, rfl⟩, HB.out⟩
      · have h := Option.some.inj ((if_neg h5).symm.trans h)
        injection h with _ h
        exact absurd h.symm hr
    · have d1 : (e == 0) = false := beq_eq_false_iff_ne.mpr h0
      have d2 : (e != 0) = true := bne_iff_ne.mpr h0
      clear h
      go_enter Tryz.func17, Tryz.ntmps17
      go_wp2_with (first
        | ((with_reducible refine gate_dst (N := 1) rfl ?_); refine bx_ 1 #[.string l, .string s, .string r, .slice A3 V.length c3, .slice A4 K.length c4] 25 ?_; intro gt hg w1 hbox hb; have BT := ak_ hbox; replace HB := ak_ (below_step HB.out hb); clear hb hbox hg; obtain ⟨hc0, hc1, hc2, hc3, hc4, hf0, hf1, hf2, hf3, hf4⟩ := c5_ BT)
        | (go_at_call 24; refine (tag_Check.calls k l s r A3 c3 V A4 c4 K e _ (Kd.C_below HV.out HB.out) cV (Kd.C_below HK.out HB.out) cK (Tbl.below HT.out HB.out) HE.out).mono ?_; rintro _ w2 ⟨rfl, hb⟩; replace HB := ak_ (below_step HB.out hb); clear hb hc0 hc1 hc2 hc3 hc4 hf0 hf1 hf2 hf3 hf4))
      go_ret2
      exact ⟨⟨_, rfl⟩, HB.out⟩
end Go.Proofs.YtphjhbppjakocaaGreatDoor.PTag
