/- The program's Lookup comes back, where each tag that is handed in is one and the same; its checkAll; conditions: those that each theorem states. -/
import Derived.Test.YtphjhbppjakocaaGreatDoorQRchain
namespace Go.Proofs.YtphjhbppjakocaaGreatDoor.PTag
open Go.RowKit Go.Proofs.YtphjhbppjakocaaGreatDoorW.PrintWords Go.Proofs.YtphjhbppjakocaaGreatDoorW.PrintLast Go.Proofs.YtphjhbppjakocaaGreatDoorW.PrintMore Go.WideShapes Go.ChangeMaps
set_option linter.unusedVariables false
set_option linter.unusedSimpArgs false
/-- A tag's text is told. -/
def TOk (m : Nat) (x : S25) : Prop := ∃ s, tag_text.f m x.f0 x.f1 x.f2 x.f3 x.f4 = some s ∧ s.size ≤ 9223372036854775807
theorem copied_id {a b c : ByteArray} {V : List ByteArray} {K : List S39} {q : ByteArray × ByteArray × ByteArray × List ByteArray × List S39} (h : tag_copied.f a b c V K = some q) : q = (a, b, c, V, K) := by
  unfold tag_copied.f at h
  obtain ⟨x, hx, h⟩ := Option.bind_eq_some_iff.1 h
  obtain ⟨y, hy, h⟩ := Option.bind_eq_some_iff.1 h
  unfold slices_Clone_string_string.f at hx
  unfold api_Key_86.f at hy
  split at hx
  · split at hy
    · obtain rfl := Option.some.inj hx
      obtain rfl := Option.some.inj hy
      exact (Option.some.inj h).symm
    · cases hy
  · cases hx
theorem chain_first {g : ByteArray → Option Int} {lp : List S45} {m k : Nat} {hd : ByteArray → Option Int} {acc : List S25} {t : TagT} {r : List S25 × Int} (h : tag_chain.l0 g lp m k hd acc t = some r) : TOk m ⟨t.1, t.2.1, t.2.2.1, t.2.2.2.1, t.2.2.2.2⟩ := by
  cases k with
  | zero => cases h
  | succ k =>
    unfold tag_chain.l0 at h
    obtain ⟨x, hx, h⟩ := Option.bind_eq_some_iff.1 h
    by_cases hz : x.size ≤ 9223372036854775807
    · exact ⟨x, hx, hz⟩
    · cases (if_neg hz).symm.trans h
/-- Each tag of a chain has a text; a chain that is told is not empty. -/
theorem chain_texts (g : ByteArray → Option Int) (lp : List S45) (m : Nat) : ∀ (k : Nat) (hd : ByteArray → Option Int) (acc : List S25) (t : TagT) (r1 : List S25) (r2 : Int), tag_chain.l0 g lp m k hd acc t = some (r1, r2) → (∀ x ∈ acc, TOk m x) → (∀ x ∈ r1, TOk m x) ∧ (r2 = 0 → 0 < r1.length)
  | 0, hd, acc, t, r1, r2, h, _ => by cases h
  | k + 1, hd, acc, t, r1, r2, h, hA => by
    have hf := chain_first h
    unfold tag_chain.l0 at h
    obtain ⟨x, hx, h⟩ := Option.bind_eq_some_iff.1 h
    by_cases hz : x.size ≤ 9223372036854775807
    · replace h := (if_pos hz).symm.trans h
      cases hg : hd x with
      | some i =>
        rw [hg] at h
        obtain ⟨rfl, rfl⟩ : _ ∧ _ := by simpa only [Prod.mk.injEq] using Option.some.inj h
        exact ⟨fun _ h => (by cases h), fun h => absurd h (by decide)⟩
      | none =>
        rw [hg] at h
        by_cases hn : acc.length < 1000000000000
        · replace h := (if_pos hn).symm.trans h
          obtain ⟨c, hc, h⟩ := Option.bind_eq_some_iff.1 h
          obtain rfl := copied_id hc
          have hA2 : ∀ y ∈ acc ++ [(⟨t.1, t.2.1, t.2.2.1, t.2.2.2.1, t.2.2.2.2⟩ : S25)], TOk m y := by
            intro y hy
            rcases List.mem_append.1 hy with hy | hy
            · exact hA y hy
            · rw [List.mem_singleton.1 hy]; exact hf
          by_cases hu : x.toList = ([117, 110, 100] : List UInt8)
          · obtain ⟨rfl, rfl⟩ : _ ∧ _ := by simpa only [Prod.mk.injEq] using Option.some.inj ((if_pos hu).symm.trans h)
            exact ⟨hA2, fun _ => by simp⟩
          · obtain ⟨p, hp, h⟩ := Option.bind_eq_some_iff.1 ((if_neg hu).symm.trans h)
            exact chain_texts g lp m k _ _ p r1 r2 h hA2
        · cases (if_neg hn).symm.trans h
    · cases (if_neg hz).symm.trans h
theorem at_same {w W : World} {A : Option Addr} {xs : List S25} {T : S25} (h : Aside0 (Kd.C k25 w A xs.length xs)) (hx : ∀ i : Nat, i < xs.length → rd_T25 xs (i : Int) = T) (hb : Below w.heap.size w W) {i : Nat} (hi : i < xs.length) :
    ∃ ad A3 c3 A4 c4, A = some ad ∧ (W.cell? (ad.add (i * 5)) = some (.string T.f0) ∧ W.cell? ⟨(ad.add (i * 5)).block, (ad.add (i * 5)).off + 1, none⟩ = some (.string T.f1) ∧ W.cell? ⟨(ad.add (i * 5)).block, (ad.add (i * 5)).off + 2, none⟩ = some (.string T.f2) ∧ W.cell? ⟨(ad.add (i * 5)).block, (ad.add (i * 5)).off + 3, none⟩ = some (.slice A3 T.f3.length c3) ∧ W.cell? ⟨(ad.add (i * 5)).block, (ad.add (i * 5)).off + 4, none⟩ = some (.slice A4 T.f4.length c4)) ∧
      Aside0 (T.f3.length ≤ c3 ∧ Kd.string.C w A3 T.f3.length T.f3 ∧ T.f4.length ≤ c4 ∧ k39.C w A4 T.f4.length T.f4) := by
  have e := hx i hi
  obtain ⟨ad, A3, c3, A4, c4, ea, x0, x1, x2, x3, x4, l3, g3, l4, g4⟩ := at_T25 h.out (i : Int) (by omega) (by omega)
  simp only [Int.toNat_natCast] at x0 x1 x2 x3 x4
  rw [e] at x0 x1 x2 x3 x4 l3 g3 l4 g4
  exact ⟨ad, A3, c3, A4, c4, ea, ⟨(hb.cell (World.block_lt_of_cell? w _ x0)).trans x0, (hb.cell (World.block_lt_of_cell? w _ x1)).trans x1, (hb.cell (World.block_lt_of_cell? w _ x2)).trans x2, (hb.cell (World.block_lt_of_cell? w _ x3)).trans x3, (hb.cell (World.block_lt_of_cell? w _ x4)).trans x4⟩, ⟨l3, g3, l4, g4⟩⟩
theorem wr1 {i n : Nat} (h : i < n) (hn : n ≤ 9223372036854775807) : IntKind.i64.wrap ((i : Int) + 1) = ((i + 1 : Nat) : Int) := by simp [IntKind.wrap, IntKind.bits, IntKind.signed]; omega
set_option maxHeartbeats 8000000 in
set_option maxRecDepth 100000 in
theorem tag_checkAll.calls (k : Nat) (T : S25) (X : Option Addr) (cx : Nat) (xs : List S25) (e : Int) (w : World) (hX : Kd.C k25 w X xs.length xs) (hx : ∀ i : Nat, i < xs.length → rd_T25 xs (i : Int) = T) (hn : xs.length ≤ 256 ∧ 0 < xs.length) (hT : Tbl w) (h : tag_Check.f k T.f0 T.f1 T.f2 T.f3 T.f4 = some e) :
    Calls Tryz.prog 41 #[.slice X xs.length cx] w fun x w' => x = .returned (.int .i64 e) ∧ Below w.heap.size w w' := by
  have hu25 := Tryz.underlying25
  have HX := ak_ hX
  have HI := ak_ hx
  have HN := ak_ hn
  have HT := ak_ hT
  have H := ak_ h
  clear hX hx hn hT h
  have HB := ak_ (Below.refl w.heap.size w)
  go_enter Tryz.func41, Tryz.ntmps41
  go_wp2
  go_loopg [8] (xs.length + 1) (fun kq v8 w' => ∃ i : Nat, v8 = .int .i64 (i : Int) ∧ Aside0 (kq + i = xs.length + 1 ∧ i ≤ xs.length ∧ (0 < i → e = 0)) ∧ Aside0 (Below w.heap.size w w'))
  case atStart => exact ⟨0, rfl, ⟨by omega, by omega, fun h => absurd h (by omega)⟩, HB⟩
  case round =>
    clear HB
    obtain ⟨i, rfl, HK, HB⟩ := hrel
    by_cases hi : i < xs.length
    · have e1 : decide ((i : Int) < (xs.length : Int)) = true := decide_eq_true (by omega)
      have e2 : ((i : Int) < (xs.length : Int)) = True := eq_true (by omega)
      have e3 : (0 ≤ (i : Int)) = True := eq_true (by omega)
      have hw1 := wr1 hi (by have := HN.out; omega)
      obtain ⟨ad, B3, d3, B4, d4, rfl, ⟨x0, x1, x2, x3, x4⟩, G⟩ := at_same HX HI.out HB.out hi
      go_upto_region 4 with ((with_reducible refine gate_dst (N := 4) rfl ?_); refine bx_ 4 #[.string (⟨#[]⟩ : ByteArray), .string (⟨#[]⟩ : ByteArray), .string (⟨#[]⟩ : ByteArray), .slice none 0 0, .slice none 0 0] 25 ?_; intro gc hg w5 hbox hb; have BC := ak_ hbox; have GC := ak_ (by rw [hg]; exact below_size HB.out : w.heap.size ≤ gc); replace HB := ak_ (below_step HB.out hb); clear hb hbox hg; obtain ⟨rc0, rc1, rc2, rc3, rc4, rf0, rf1, rf2, rf3, rf4⟩ := c5_ BC)
      have BC2 := ak_ (TgB.put (l' := T.f0) (s' := T.f1) (r' := T.f2) (V3' := .slice B3 T.f3.length d3) (V4' := .slice B4 T.f4.length d4) (show TgB w5 gc ⟨#[]⟩ ⟨#[]⟩ ⟨#[]⟩ (.slice none 0 0) (.slice none 0 0) from BC.out))
      replace HB := ak_ (below_set (below_set (below_set (below_set (below_set HB.out GC.out (j := 0) (v := .string T.f0)) GC.out (j := 1) (v := .string T.f1)) GC.out (j := 2) (v := .string T.f2)) GC.out (j := 3) (v := .slice B3 T.f3.length d3)) GC.out (j := 4) (v := .slice B4 T.f4.length d4))
      clear BC x0 x1 x2 x3 x4 rc0 rc1 rc2 rc3 rc4 rf0 rf1 rf2 rf3 rf4
      have BC := BC2
      clear BC2
      generalize (((((w5.setCell ⟨gc, 0, none⟩ (.string T.f0)).setCell ⟨gc, 1, none⟩ (.string T.f1)).setCell ⟨gc, 2, none⟩ (.string T.f2)).setCell ⟨gc, 3, none⟩ (.slice B3 T.f3.length d3)).setCell ⟨gc, 4, none⟩ (.slice B4 T.f4.length d4)) = w6 at BC HB ⊢
      obtain ⟨rc0, rc1, rc2, rc3, rc4, rf0, rf1, rf2, rf3, rf4⟩ := c5_ BC
      go_upto_region 5 with (go_at_call 24; refine (tag_Check.calls k T.f0 T.f1 T.f2 B3 d3 T.f3 B4 d4 T.f4 e _ (Kd.C_below G.out.2.1 HB.out) G.out.1 (Kd.C_below G.out.2.2.2 HB.out) G.out.2.2.1 (Tbl.below HT.out HB.out) H.out).mono ?_; rintro _ w7 ⟨rfl, hb⟩; replace HB := ak_ (below_step HB.out hb); clear hb rc0 rc1 rc2 rc3 rc4 rf0 rf1 rf2 rf3 rf4)
      by_cases h0 : e = 0
      · subst h0
        go_wp2
        go_roundg (gk - 1)
        case measure => have := HK.out; omega
        case rel => exact ⟨i + 1, by go_num, ⟨by have := HK.out; omega, by omega, fun _ => (by first | rfl | trivial)⟩, HB⟩
      · have d1 : (e == 0) = false := beq_eq_false_iff_ne.mpr h0
        have d2 : (e != 0) = true := bne_iff_ne.mpr h0
        go_wp2
        go_ret
        exact ⟨rfl, HB.out⟩
    · have e1 : decide ((i : Int) < (xs.length : Int)) = false := decide_eq_false (by omega)
      have e4 : decide (i < xs.length) = false := decide_eq_false hi
      obtain rfl : e = 0 := HK.out.2.2 (by have := HN.out; omega)
      go_wp2
      go_ret
      exact ⟨rfl, HB.out⟩
/-- Lookup comes back. -/
theorem rd_mem {xs : List S25} {j : Nat} (h : j < xs.length) : rd_T25 xs (j : Int) ∈ xs := by
  simp only [rd_T25, Int.toNat_natCast]
  rw [List.getD_eq_getElem?_getD, List.getElem?_eq_getElem h]
  exact List.getElem_mem h
theorem lt_facts {i n : Nat} (h : i < n) : decide ((i : Int) < (n : Int)) = true ∧ ((i : Int) < (n : Int)) = True ∧ (0 ≤ (i : Int)) = True := ⟨decide_eq_true (by omega), eq_true (by omega), eq_true (by omega)⟩
theorem ge_facts {i n : Nat} (h : ¬ i < n) : decide ((i : Int) < (n : Int)) = false ∧ decide (i < n) = false := ⟨decide_eq_false (by omega), decide_eq_false h⟩
set_option maxHeartbeats 8000000 in
set_option maxRecDepth 100000 in
theorem tag_Lookup.calls (k : Nat) (T : S25) (X : Option Addr) (cx : Nat) (xs : List S25) (Y : Option Addr) (cy : Nat) (ys : List S25) (Ap : Option Addr) (cp : Nat) (lp : List S45) (r : List S25 × Int) (w : World) (hX : Kd.C k25 w X xs.length xs) (hx : ∀ i : Nat, i < xs.length → rd_T25 xs (i : Int) = T) (hn : xs.length ≤ 256 ∧ 0 < xs.length) (hY : Kd.C k25 w Y ys.length ys) (hy : ∀ i : Nat, i < ys.length → rd_T25 ys (i : Int) = T) (hm : ys.length ≤ 256 ∧ 0 < ys.length) (hp : Kd.C k45 w Ap lp.length lp) (cp' : lp.length ≤ cp) (hT : Tbl w) (h : tag_Chain.f k T.f0 T.f1 T.f2 T.f3 T.f4 lp = some r) :
    Calls Tryz.prog 18 #[.slice X xs.length cx, .slice Y ys.length cy, .slice Ap lp.length cp] w fun x w' => (∃ v, x = .returned v) ∧ Below w.heap.size w w' := by
  have hu25 := Tryz.underlying25
  have hmm := @run_makeMap Tryz.prog
  have e1 : decide (256 < (xs.length : Int)) = false := decide_eq_false (by omega)
  have e2 : decide (256 < xs.length) = false := decide_eq_false (by omega)
  have e3 : decide (256 < (ys.length : Int)) = false := decide_eq_false (by omega)
  have e4 : decide (256 < ys.length) = false := decide_eq_false (by omega)
  have HX := ak_ hX
  have HI := ak_ hx
  have HN := ak_ hn
  have HY := ak_ hY
  have HJ := ak_ hy
  have HM := ak_ hm
  have HP := ak_ hp
  have HT := ak_ hT
  clear hX hx hn hY hy hm hp hT
  have HB := ak_ (Below.refl w.heap.size w)
  obtain ⟨r1, r2⟩ := r
  unfold tag_Chain.f at h
  obtain ⟨e, he, h⟩ := Option.bind_eq_some_iff.1 h
  have HE := ak_ he
  clear he
  by_cases h0 : e = 0
  · subst h0
    obtain ⟨⟨eq, g⟩, hq, h⟩ := Option.bind_eq_some_iff.1 ((if_pos rfl).symm.trans h)
    have HQ := ak_ hq
    clear hq
    by_cases h2 : eq = 0
    · subst h2
      have H := ak_ ((if_pos rfl).symm.trans h)
      clear h
      obtain ⟨tx, htx, hz⟩ := chain_first H.out
      have HTX := ak_ htx
      have HZ := ak_ (show tx.size ≤ maxLen from hz)
      have HC := ak_ (chain_texts g lp k k _ _ _ _ _ H.out (fun _ h => by cases h))
      clear htx hz
      go_enter Tryz.func18, Tryz.ntmps18
      go_wp2_with (first
        | (go_at_call 41; with_reducible refine (tag_checkAll.calls k T X cx xs 0 _ (Kd.C_below HX.out HB.out) HI.out HN.out (Tbl.below HT.out HB.out) HE.out).mono ?_; rintro _ w1 ⟨rfl, hb⟩; replace HB := ak_ (below_step HB.out hb); clear hb)
        | (go_at_call 41; with_reducible refine (tag_checkAll.calls k T Y cy ys 0 _ (Kd.C_below HY.out HB.out) HJ.out HM.out (Tbl.below HT.out HB.out) HE.out).mono ?_; rintro _ w2 ⟨rfl, hb⟩; replace HB := ak_ (below_step HB.out hb); clear hb)
        | (go_at_call 26; refine (tag_places.calls k Ap cp lp 0 g _ (Kd.C_below HP.out HB.out) cp' HQ.out).mono ?_; rintro _ w3 ⟨v, rfl, hv, hb⟩; obtain ⟨bm, nm, rfl, hm⟩ := hv rfl; have HMM := ak_ hm; replace HB := ak_ (below_step HB.out hb); clear hv hm hb))
      clear e1 e2 e3 e4
      go_loopg [57] (ys.length + 1) (fun kq v57 w' => ∃ (i : Nat) (gg : ByteArray → Option Int) (n : Nat), v57 = .int .i64 (i : Int) ∧ Aside0 (kq + i = ys.length + 1 ∧ i ≤ ys.length ∧ n ≤ i) ∧ Aside0 (MapAt w' w3.heap.size n gg) ∧ Aside0 (Below w3.heap.size w3 w'))
      case atStart => exact ⟨0, fun _ => none, 0, rfl, ⟨by omega, by omega, by omega⟩, ⟨MapAt.made w3⟩, ⟨below_alloc (Below.refl _ _) _⟩⟩
      case round =>
        obtain ⟨i, gg, n, rfl, HK, HD, HL⟩ := hrel
        obtain ⟨ka, rfl⟩ : ∃ ka, gk = ka + 1 := ⟨gk - 1, by have := HK.out; omega⟩
        by_cases hi : i < ys.length
        · obtain ⟨e1, e2, e3⟩ := lt_facts hi
          have hw1 := wr1 hi (by have := HM.out; omega)
          obtain ⟨ad, B3, d3, B4, d4, rfl, ⟨x0, x1, x2, x3, x4⟩, G⟩ := at_same HY HJ.out (below_step HB.out HL.out) hi
          go_upto_region 16 with ((with_reducible refine gate_dst (N := 14) rfl ?_); refine bx_ 14 #[.string (⟨#[]⟩ : ByteArray), .string (⟨#[]⟩ : ByteArray), .string (⟨#[]⟩ : ByteArray), .slice none 0 0, .slice none 0 0] 25 ?_; intro gc hg w5 hbox hb; have BC := ak_ hbox; have GC := ak_ (by rw [hg]; exact below_size HL.out : w3.heap.size ≤ gc); have NC := ak_ (by rw [hg]; exact Nat.ne_of_lt HD.out.lt : w3.heap.size ≠ gc); replace HD := ak_ (HD.out.below hb); replace HL := ak_ (below_step HL.out hb); clear hb hbox hg; obtain ⟨rc0, rc1, rc2, rc3, rc4, rf0, rf1, rf2, rf3, rf4⟩ := c5_ BC)
          have BC2 := ak_ (TgB.put (l' := T.f0) (s' := T.f1) (r' := T.f2) (V3' := .slice B3 T.f3.length d3) (V4' := .slice B4 T.f4.length d4) (show TgB w5 gc ⟨#[]⟩ ⟨#[]⟩ ⟨#[]⟩ (.slice none 0 0) (.slice none 0 0) from BC.out))
          replace HD := ak_ (HD.out.same (set5_ (u0 := .string T.f0) (u1 := .string T.f1) (u2 := .string T.f2) (u3 := .slice B3 T.f3.length d3) (u4 := .slice B4 T.f4.length d4) _ NC.out))
          replace HL := ak_ (below_set (below_set (below_set (below_set (below_set HL.out GC.out (j := 0) (v := .string T.f0)) GC.out (j := 1) (v := .string T.f1)) GC.out (j := 2) (v := .string T.f2)) GC.out (j := 3) (v := .slice B3 T.f3.length d3)) GC.out (j := 4) (v := .slice B4 T.f4.length d4))
          clear BC x0 x1 x2 x3 x4 rc0 rc1 rc2 rc3 rc4 rf0 rf1 rf2 rf3 rf4
          have BC := BC2
          clear BC2
          generalize (((((w5.setCell ⟨gc, 0, none⟩ (.string T.f0)).setCell ⟨gc, 1, none⟩ (.string T.f1)).setCell ⟨gc, 2, none⟩ (.string T.f2)).setCell ⟨gc, 3, none⟩ (.slice B3 T.f3.length d3)).setCell ⟨gc, 4, none⟩ (.slice B4 T.f4.length d4)) = w6 at BC HD HL ⊢
          obtain ⟨rc0, rc1, rc2, rc3, rc4, rf0, rf1, rf2, rf3, rf4⟩ := c5_ BC
          cases hg : gg tx with
          | some j =>
            have HG := ak_ hg
            clear hg
            go_wp2_with (first | (go_at_call 40; refine (tag_text.calls k T.f0 T.f1 T.f2 B3 d3 T.f3 B4 d4 T.f4 tx _ (Kd.C_below G.out.2.1 (below_step HB.out HL.out)) G.out.1 (Kd.C_below G.out.2.2.2 (below_step HB.out HL.out)) G.out.2.2.1 HTX.out).mono ?_; rintro _ w9 ⟨rfl, hb⟩; replace BC := ak_ (blk_below BC.out hb); replace HD := ak_ (HD.out.below hb); replace HL := ak_ (below_step HL.out hb); clear hb rc0 rc1 rc2 rc3 rc4 rf0 rf1 rf2 rf3 rf4; obtain ⟨rc0, rc1, rc2, rc3, rc4, rf0, rf1, rf2, rf3, rf4⟩ := c5_ BC) | (at_lookup; refine map_look_ _ rfl _ _ rfl w3.heap.size n gg rfl HD.out tx rfl HZ.out ?_; rw [HG.out]))
            go_roundg ka
            case measure => omega
            case rel => exact ⟨i + 1, gg, n, by go_num, ⟨by have := HK.out; omega, by omega, by have := HK.out; omega⟩, HD, HL⟩
          | none =>
            have HG := ak_ hg
            clear hg
            go_wp2_with (first | (go_at_call 40; refine (tag_text.calls k T.f0 T.f1 T.f2 B3 d3 T.f3 B4 d4 T.f4 tx _ (Kd.C_below G.out.2.1 (below_step HB.out HL.out)) G.out.1 (Kd.C_below G.out.2.2.2 (below_step HB.out HL.out)) G.out.2.2.1 HTX.out).mono ?_; rintro _ w9 ⟨rfl, hb⟩; replace BC := ak_ (blk_below BC.out hb); replace HD := ak_ (HD.out.below hb); replace HL := ak_ (below_step HL.out hb); clear hb rc0 rc1 rc2 rc3 rc4 rf0 rf1 rf2 rf3 rf4; obtain ⟨rc0, rc1, rc2, rc3, rc4, rf0, rf1, rf2, rf3, rf4⟩ := c5_ BC) | (at_lookup; refine map_look_ _ rfl _ _ rfl w3.heap.size n gg rfl HD.out tx rfl HZ.out ?_; rw [HG.out]) | (at_mapUpdate; refine map_store_ _ rfl _ _ _ rfl w3.heap.size n gg rfl HD.out (by have := HK.out; have := HM.out; unfold maxLen; omega) tx rfl HZ.out (i : Int) rfl (WalkArith.wf_i64 (by have := HM.out; omega)) ?_; intro w10 hD10 hgr; replace HL := ak_ (HL.out.grown hgr HL.out.size (fun j hj => by cases hj; exact Nat.le_refl _)); replace HD := ak_ hD10; clear hD10 hgr rc0 rc1 rc2 rc3 rc4 rf0 rf1 rf2 rf3 rf4))
            go_roundg ka
            case measure => omega
            case rel => exact ⟨i + 1, _, n + 1, by go_num, ⟨by have := HK.out; omega, by omega, by have := HK.out; omega⟩, HD, HL⟩
        · obtain ⟨e1, e4⟩ := ge_facts hi
          go_wp2
          clear e1 e4 hi HK
          go_loopg [17, 78] (xs.length + 1) (fun kq v17 v78 w' => ∃ (i : Nat) (z : Int), v17 = .int .i64 z ∧ v78 = .int .i64 (i : Int) ∧ Aside0 (kq + i = xs.length + 1 ∧ i ≤ xs.length) ∧ Aside0 (MapAt w' w3.heap.size n gg) ∧ Aside0 (Below w3.heap.size w3 w'))
          case atStart => exact ⟨0, -1, rfl, rfl, ⟨by omega, by omega⟩, HD, HL⟩
          case round =>
            clear HD HL
            obtain ⟨i, z, rfl, rfl, HK, HD, HL⟩ := hrel
            obtain ⟨kb, rfl⟩ : ∃ kb, gk = kb + 1 := ⟨gk - 1, by have := HK.out; omega⟩
            by_cases hi : i < xs.length
            · obtain ⟨e1, e2, e3⟩ := lt_facts hi
              have hw1 := wr1 hi (by have := HN.out; omega)
              obtain ⟨ad, B3, d3, B4, d4, rfl, ⟨x0, x1, x2, x3, x4⟩, G⟩ := at_same HX HI.out (below_step HB.out HL.out) hi
              go_upto_region 24 with ((with_reducible refine gate_dst (N := 19) rfl ?_); refine bx_ 19 #[.string (⟨#[]⟩ : ByteArray), .string (⟨#[]⟩ : ByteArray), .string (⟨#[]⟩ : ByteArray), .slice none 0 0, .slice none 0 0] 25 ?_; intro gc hg w5 hbox hb; have BC := ak_ hbox; have GC := ak_ (by rw [hg]; exact below_size HL.out : w3.heap.size ≤ gc); have NC := ak_ (by rw [hg]; exact Nat.ne_of_lt HD.out.lt : w3.heap.size ≠ gc); replace HD := ak_ (HD.out.below hb); replace HL := ak_ (below_step HL.out hb); clear hb hbox hg; obtain ⟨rc0, rc1, rc2, rc3, rc4, rf0, rf1, rf2, rf3, rf4⟩ := c5_ BC)
              have BC2 := ak_ (TgB.put (l' := T.f0) (s' := T.f1) (r' := T.f2) (V3' := .slice B3 T.f3.length d3) (V4' := .slice B4 T.f4.length d4) (show TgB w5 gc ⟨#[]⟩ ⟨#[]⟩ ⟨#[]⟩ (.slice none 0 0) (.slice none 0 0) from BC.out))
              replace HD := ak_ (HD.out.same (set5_ (u0 := .string T.f0) (u1 := .string T.f1) (u2 := .string T.f2) (u3 := .slice B3 T.f3.length d3) (u4 := .slice B4 T.f4.length d4) _ NC.out))
              replace HL := ak_ (below_set (below_set (below_set (below_set (below_set HL.out GC.out (j := 0) (v := .string T.f0)) GC.out (j := 1) (v := .string T.f1)) GC.out (j := 2) (v := .string T.f2)) GC.out (j := 3) (v := .slice B3 T.f3.length d3)) GC.out (j := 4) (v := .slice B4 T.f4.length d4))
              clear BC x0 x1 x2 x3 x4 rc0 rc1 rc2 rc3 rc4 rf0 rf1 rf2 rf3 rf4
              have BC := BC2
              clear BC2
              generalize (((((w5.setCell ⟨gc, 0, none⟩ (.string T.f0)).setCell ⟨gc, 1, none⟩ (.string T.f1)).setCell ⟨gc, 2, none⟩ (.string T.f2)).setCell ⟨gc, 3, none⟩ (.slice B3 T.f3.length d3)).setCell ⟨gc, 4, none⟩ (.slice B4 T.f4.length d4)) = w6 at BC HD HL ⊢
              obtain ⟨rc0, rc1, rc2, rc3, rc4, rf0, rf1, rf2, rf3, rf4⟩ := c5_ BC
              go_upto_region 25 with (go_at_call 27; refine (tag_chain.calls k k g bm nm (T.f0, T.f1, T.f2, T.f3, T.f4) B3 d3 B4 d4 Ap cp lp r1 r2 _ (TagR_.mono (P := fun _ => True) ⟨Kd.C_below G.out.2.1 (below_step HB.out HL.out), G.out.1, Kd.C_below G.out.2.2.2 (below_step HB.out HL.out), G.out.2.2.1, fun _ _ _ => trivial, fun _ _ _ => trivial⟩ (fun b _ hl => hl)) (HMM.out.below HL.out) (Kd.C_below HP.out (below_step HB.out HL.out)) cp' H.out).mono ?_; rintro _ w7 ⟨v, rfl, hR, hb⟩; obtain ⟨B7, d7, e7⟩ := Kd.S_slice hR; subst e7; have O7 := ak_ (Kd.S_reads' hR).2.2; have hle : r1.length - 1 ≤ d7 := (by have := (Kd.S_reads' hR).2.1; omega); replace HD := ak_ (HD.out.below hb); have HL7 := ak_ (below_step HL.out hb); clear hR HL BC; clear hb rc0 rc1 rc2 rc3 rc4 rf0 rf1 rf2 rf3 rf4)
              by_cases hr : r2 = 0
              · subst hr
                have hlen := HC.out.2 rfl
                have hw : IntKind.i64.wrap ((r1.length : Int) - 1) = ((r1.length - 1 : Nat) : Int) := by have := O7.out.2.1; simp [IntKind.wrap, IntKind.bits, IntKind.signed]; omega
                have HLEN := ak_ hlen
                go_wp2
                clear hlen hw
                go_loopg [17, 98] r1.length (fun kq v17 v98 w' => ∃ (j : Nat) (z : Int), v17 = .int .i64 z ∧ v98 = .int .i64 (j : Int) ∧ Aside0 (kq + j = r1.length ∧ j ≤ r1.length - 1) ∧ Aside0 (Below w7.heap.size w7 w'))
                case atStart => exact ⟨0, _, rfl, rfl, ⟨by omega, by omega⟩, ⟨Below.refl _ _⟩⟩
                case round =>
                  obtain ⟨j, z, rfl, rfl, HKJ, HL⟩ := hrel
                  obtain ⟨kc, rfl⟩ : ∃ kc, gk = kc + 1 := ⟨gk - 1, by have := HKJ.out; have := HLEN.out; omega⟩
                  by_cases hj : j < r1.length - 1
                  · obtain ⟨e1, e2, e3⟩ := lt_facts hj
                    have hw2 := wr1 hj (by have := O7.out.2.1; omega)
                    obtain ⟨ty, hty, hzy⟩ := HC.out.1 (rd_T25 r1 (j : Int)) (rd_mem (show j < r1.length by omega))
                    have HTY := ak_ hty
                    have HZY := ak_ (show ty.size ≤ maxLen from hzy)
                    clear hty hzy
                    obtain ⟨ad, B3, d3, B4, d4, rfl, x0, x1, x2, x3, x4, l3, g3, l4, g4⟩ := at_T25 O7.out (j : Int) (by omega) (by omega)
                    simp only [Int.toNat_natCast] at x0 x1 x2 x3 x4
                    have G3 := ak_ g3
                    have G4 := ak_ g4
                    replace x0 := (HL.out.cell (World.block_lt_of_cell? w7 _ x0)).trans x0
                    replace x1 := (HL.out.cell (World.block_lt_of_cell? w7 _ x1)).trans x1
                    replace x2 := (HL.out.cell (World.block_lt_of_cell? w7 _ x2)).trans x2
                    replace x3 := (HL.out.cell (World.block_lt_of_cell? w7 _ x3)).trans x3
                    replace x4 := (HL.out.cell (World.block_lt_of_cell? w7 _ x4)).trans x4
                    clear g3 g4
                    go_upto_region 30 with ((with_reducible refine gate_dst (N := 23) rfl ?_); refine bx_ 23 #[.string (⟨#[]⟩ : ByteArray), .string (⟨#[]⟩ : ByteArray), .string (⟨#[]⟩ : ByteArray), .slice none 0 0, .slice none 0 0] 25 ?_; intro gc hg w5 hbox hb; have BC := ak_ hbox; have GC := ak_ (by rw [hg]; exact below_size HL.out : w7.heap.size ≤ gc); replace HL := ak_ (below_step HL.out hb); clear hb hbox hg; obtain ⟨rc0, rc1, rc2, rc3, rc4, rf0, rf1, rf2, rf3, rf4⟩ := c5_ BC)
                    have BC2 := ak_ (TgB.put (l' := (rd_T25 r1 (j : Int)).f0) (s' := (rd_T25 r1 (j : Int)).f1) (r' := (rd_T25 r1 (j : Int)).f2) (V3' := .slice B3 (rd_T25 r1 (j : Int)).f3.length d3) (V4' := .slice B4 (rd_T25 r1 (j : Int)).f4.length d4) (show TgB w5 gc ⟨#[]⟩ ⟨#[]⟩ ⟨#[]⟩ (.slice none 0 0) (.slice none 0 0) from BC.out))
                    replace HL := ak_ (below_set (below_set (below_set (below_set (below_set HL.out GC.out (j := 0) (v := .string (rd_T25 r1 (j : Int)).f0)) GC.out (j := 1) (v := .string (rd_T25 r1 (j : Int)).f1)) GC.out (j := 2) (v := .string (rd_T25 r1 (j : Int)).f2)) GC.out (j := 3) (v := .slice B3 (rd_T25 r1 (j : Int)).f3.length d3)) GC.out (j := 4) (v := .slice B4 (rd_T25 r1 (j : Int)).f4.length d4))
                    clear BC x0 x1 x2 x3 x4 rc0 rc1 rc2 rc3 rc4 rf0 rf1 rf2 rf3 rf4
                    have BC := BC2
                    clear BC2
                    generalize (((((w5.setCell ⟨gc, 0, none⟩ (.string (rd_T25 r1 (j : Int)).f0)).setCell ⟨gc, 1, none⟩ (.string (rd_T25 r1 (j : Int)).f1)).setCell ⟨gc, 2, none⟩ (.string (rd_T25 r1 (j : Int)).f2)).setCell ⟨gc, 3, none⟩ (.slice B3 (rd_T25 r1 (j : Int)).f3.length d3)).setCell ⟨gc, 4, none⟩ (.slice B4 (rd_T25 r1 (j : Int)).f4.length d4)) = w6 at BC HL ⊢
                    obtain ⟨rc0, rc1, rc2, rc3, rc4, rf0, rf1, rf2, rf3, rf4⟩ := c5_ BC
                    cases hg : gg ty with
                    | none =>
                      have HG := ak_ hg
                      clear hg
                      go_wp2_with (first | (go_at_call 40; refine (tag_text.calls k _ _ _ B3 d3 _ B4 d4 _ ty _ (Kd.C_below G3.out HL.out) l3 (Kd.C_below G4.out HL.out) l4 HTY.out).mono ?_; rintro _ w9 ⟨rfl, hb⟩; replace HL := ak_ (below_step HL.out hb); clear hb rc0 rc1 rc2 rc3 rc4 rf0 rf1 rf2 rf3 rf4) | (at_lookup; refine map_look_ _ rfl _ _ rfl w3.heap.size n gg rfl (HD.out.below HL.out) ty rfl HZY.out ?_; rw [HG.out]))
                      go_roundg kc
                      case measure => omega
                      case rel => exact ⟨j + 1, z, rfl, by go_num, ⟨by have := HKJ.out; omega, by omega⟩, HL⟩
                    | some q =>
                      have HG := ak_ hg
                      clear hg
                      by_cases hz : z < 0
                      · have z1 : decide (z < 0) = true := decide_eq_true hz
                        go_wp2_with (first | (go_at_call 40; refine (tag_text.calls k _ _ _ B3 d3 _ B4 d4 _ ty _ (Kd.C_below G3.out HL.out) l3 (Kd.C_below G4.out HL.out) l4 HTY.out).mono ?_; rintro _ w9 ⟨rfl, hb⟩; replace HL := ak_ (below_step HL.out hb); clear hb rc0 rc1 rc2 rc3 rc4 rf0 rf1 rf2 rf3 rf4) | (at_lookup; refine map_look_ _ rfl _ _ rfl w3.heap.size n gg rfl (HD.out.below HL.out) ty rfl HZY.out ?_; rw [HG.out]))
                        go_roundg kc
                        case measure => omega
                        case rel => exact ⟨j + 1, _, rfl, by go_num, ⟨by have := HKJ.out; omega, by omega⟩, HL⟩
                      · have z1 : decide (z < 0) = false := decide_eq_false hz
                        go_wp2_with (first | (go_at_call 40; refine (tag_text.calls k _ _ _ B3 d3 _ B4 d4 _ ty _ (Kd.C_below G3.out HL.out) l3 (Kd.C_below G4.out HL.out) l4 HTY.out).mono ?_; rintro _ w9 ⟨rfl, hb⟩; replace HL := ak_ (below_step HL.out hb); clear hb rc0 rc1 rc2 rc3 rc4 rf0 rf1 rf2 rf3 rf4) | (at_lookup; refine map_look_ _ rfl _ _ rfl w3.heap.size n gg rfl (HD.out.below HL.out) ty rfl HZY.out ?_; rw [HG.out]))
                        go_roundg kc
                        case measure => omega
                        case rel => exact ⟨j + 1, z, rfl, by go_num, ⟨by have := HKJ.out; omega, by omega⟩, HL⟩
                  · obtain ⟨e1, e4⟩ := ge_facts hj
                    go_wp2
                    go_roundg kb
                    case measure => omega
                    case rel => exact ⟨i + 1, _, rfl, by go_num, ⟨by have := HK.out; omega, by omega⟩, ⟨HD.out.below HL.out⟩, ⟨below_step HL7.out HL.out⟩⟩
              · have d1 : (r2 == 0) = false := beq_eq_false_iff_ne.mpr hr
                have d2 : (r2 != 0) = true := bne_iff_ne.mpr hr
                go_wp2
                go_ret2
                exact ⟨⟨_, rfl⟩, below_step HB.out HL7.out⟩
            · obtain ⟨e1, e4⟩ := ge_facts hi
              by_cases hz : 0 ≤ z
              · have z1 : decide (0 ≤ z) = true := decide_eq_true hz
                have z2 : decide (z < 0) = false := decide_eq_false (by omega)
                go_wp2
                go_ret2
                exact ⟨⟨_, rfl⟩, below_step HB.out HL.out⟩
              · have z1 : decide (0 ≤ z) = false := decide_eq_false hz
                have z2 : decide (z < 0) = true := decide_eq_true (by omega)
                cases hg : gg ⟨#[117, 110, 100]⟩ with
                | none =>
                  go_wp2_with (at_lookup; refine map_look_ _ rfl _ _ rfl w3.heap.size n gg rfl HD.out ⟨#[117, 110, 100]⟩ rfl (by decide) ?_; rw [hg])
                  go_ret2
                  exact ⟨⟨_, rfl⟩, below_step HB.out HL.out⟩
                | some q =>
                  go_wp2_with (at_lookup; refine map_look_ _ rfl _ _ rfl w3.heap.size n gg rfl HD.out ⟨#[117, 110, 100]⟩ rfl (by decide) ?_; rw [hg])
                  go_ret2
                  exact ⟨⟨_, rfl⟩, below_step HB.out HL.out⟩
    · have d1 : (eq == 0) = false := beq_eq_false_iff_ne.mpr h2
      have d2 : (eq != 0) = true := bne_iff_ne.mpr h2
      go_enter Tryz.func18, Tryz.ntmps18
      go_wp2_with (first
        | (go_at_call 41; with_reducible refine (tag_checkAll.calls k T X cx xs 0 _ (Kd.C_below HX.out HB.out) HI.out HN.out (Tbl.below HT.out HB.out) HE.out).mono ?_; rintro _ w1 ⟨rfl, hb⟩; replace HB := ak_ (below_step HB.out hb); clear hb)
        | (go_at_call 41; with_reducible refine (tag_checkAll.calls k T Y cy ys 0 _ (Kd.C_below HY.out HB.out) HJ.out HM.out (Tbl.below HT.out HB.out) HE.out).mono ?_; rintro _ w2 ⟨rfl, hb⟩; replace HB := ak_ (below_step HB.out hb); clear hb)
        | (go_at_call 26; refine (tag_places.calls k Ap cp lp eq g _ (Kd.C_below HP.out HB.out) cp' HQ.out).mono ?_; rintro _ w3 ⟨v, rfl, _, hb⟩; replace HB := ak_ (below_step HB.out hb); clear hb))
      go_ret2
      exact ⟨⟨_, rfl⟩, HB.out⟩
  · have d1 : (e == 0) = false := beq_eq_false_iff_ne.mpr h0
    have d2 : (e != 0) = true := bne_iff_ne.mpr h0
    go_enter Tryz.func18, Tryz.ntmps18
    go_wp2_with (go_at_call 41; with_reducible refine (tag_checkAll.calls k T X cx xs e _ (Kd.C_below HX.out HB.out) HI.out HN.out (Tbl.below HT.out HB.out) HE.out).mono ?_; rintro _ w1 ⟨rfl, hb⟩; replace HB := ak_ (below_step HB.out hb); clear hb)
    go_ret2
    exact ⟨⟨_, rfl⟩, HB.out⟩
end Go.Proofs.YtphjhbppjakocaaGreatDoor.PTag
