/- The law of tags that stay, walked; conditions: those that each theorem states. -/
import Derived.Test.YtphjhbppjakocaaGreatDoorQLook
import Derived.Test.YtphjhbppjakocaaGreatDoorQRows
namespace Go.Proofs.YtphjhbppjakocaaGreatDoor.PTag
open Go.RowKit Go.Proofs.YtphjhbppjakocaaGreatDoorW.PrintWords Go.Proofs.YtphjhbppjakocaaGreatDoorW.PrintLast Go.Proofs.YtphjhbppjakocaaGreatDoorW.PrintMore Go.WideShapes Go.ChangeMaps
set_option linter.unusedVariables false
set_option linter.unusedSimpArgs false
theorem eqA45 (d : Nat) (w : World) (x0 y0 : ByteArray) (x1 y1 : ByteArray) : (Op.equalIn (d + 2) 45 (.agg #[.string x0, .string x1]) (.agg #[.string y0, .string y1])).run Tryz.prog w = .ok (x0.toList == y0.toList && (x1.toList == y1.toList)) w := by
  refine eqA_of Tryz.underlying45 (by kernel_rfl) ?_
  refine eqf_cons (by rfl) (by go_simp; rfl) (by go_simp; rfl) (by go_simp) ?_
  exact eqf_last (by rfl) (by go_simp; rfl) (by go_simp; rfl) (by go_simp)
attribute [local go_sem high] eqA45
theorem one_at {T : S25} : ∀ i : Nat, i < [T].length → rd_T25 [T] (i : Int) = T := fun i hi => (by obtain rfl : i = 0 := (by simpa using hi); rfl)
set_option maxHeartbeats 8000000 in
set_option maxRecDepth 100000 in
theorem l7_TagOwn.calls (k : Nat) (l s r : ByteArray) (A3 : Option Addr) (c3 : Nat) (V : List ByteArray) (A4 : Option Addr) (c4 : Nat) (K : List S39) (A1 : Option Addr) (c1 : Nat) (lp : List S45) (x q : List S25) (e : Int) (pr : ByteArray × Int) (w : World) (hV : Kd.C Kd.string w A3 V.length V) (cV : V.length ≤ c3) (hK : Kd.C k39 w A4 K.length K) (cK : K.length ≤ c4) (hP : Kd.C k45 w A1 lp.length lp) (cP : lp.length ≤ c1) (hT : Tbl w)
    (hC : i7_Copy.f l s r V K = some (l, s, r, V, K)) (hL : lp.length < 4398046511104) (h1 : tag_Chain.f k l s r V K lp = some (x, e)) (h2 : i7_Chain.f k l s r V K lp = some (q, e)) (h3 : l7_same.f k x q = some true) (h4 : l7_awake.f k = some true) (h5 : tag_Print.f k l s r V K = some pr) (h6 : i7_Same.f k l s r V K l s r V K = some true) :
    Calls Tryz.prog 4 #[.agg #[.string l, .string s, .string r, .slice A3 V.length c3, .slice A4 K.length c4], .slice A1 lp.length c1] w fun e w' => e = .returned (.bool true) ∧ Below w.heap.size w w' := by
  have hu25 := Tryz.underlying25
  have HV := ak_ hV
  have HK := ak_ hK
  have HP := ak_ hP
  have HT := ak_ hT
  have HB := ak_ (Below.refl w.heap.size w)
  have HC := ak_ hC
  have H1 := ak_ h1
  have H2 := ak_ h2
  have H3 := ak_ h3
  have H4 := ak_ h4
  have H5 := ak_ h5
  have H6 := ak_ h6
  have HLN := ak_ hL
  clear hV hK hP hT hC h1 h2 h3 h4 h5 h6 hL
  go_enter Tryz.func4, Tryz.ntmps4
  go_upto_region 2 with (first
    | ((with_reducible refine gate_dst (N := 2) rfl ?_); refine bx_ 2 #[.string l, .string s, .string r, .slice A3 V.length c3, .slice A4 K.length c4] 25 ?_; intro gt hg w1 hbox hb; have BT := ak_ hbox; replace HB := ak_ (below_step HB.out hb); clear hb hbox hg; obtain ⟨hc0, hc1, hc2, hc3, hc4, hf0, hf1, hf2, hf3, hf4⟩ := c5_ BT)
    | (go_at_call 16; refine (i7_Copy.calls l s r A3 c3 V A4 c4 K l s r V K _ (Kd.C_below HV.out HB.out) cV (Kd.C_below HK.out HB.out) cK HC.out).mono ?_; rintro _ w2 ⟨v3, v4, rfl, o3, o4, hb⟩; have O3 := ak_ (Kd.R_lower o3 (below_size HB.out)); have O4 := ak_ (Kd.R_lower o4 (below_size HB.out)); replace BT := ak_ (blk_below BT.out hb); replace HB := ak_ (below_step HB.out hb); clear o3 o4; clear hb hc0 hc1 hc2 hc3 hc4 hf0 hf1 hf2 hf3 hf4; obtain ⟨hc0, hc1, hc2, hc3, hc4, hf0, hf1, hf2, hf3, hf4⟩ := c5_ BT)
    | ((with_reducible refine gate_dst (N := 19) rfl ?_); refine Kd.R_lit k45 _ 45 ?hg (N := 19) ?hd (xs := ([] : List S45)) (inner := []) (ok := fun _ => True) (okp := fun _ => True) ?hr ?hp (fun _ hk => hk) trivial (Below.refl _ _) (Nat.le_refl _) (by simp) ?_; (case hd => rfl); (case hg => rfl); (case hr => first | (go_simp; done) | (go_simp; rfl)); (case hp => exact (Reps.none _ _)); intro v5 w3 o5 hb hg_ hnew_; have O5 := ak_ (Kd.R_lower o5 (below_size HB.out)); replace O3 := ak_ (Kd.R_below O3.out hb); replace O4 := ak_ (Kd.R_below O4.out hb); replace BT := ak_ (blk_below BT.out hb); replace HB := ak_ (below_step HB.out hb); clear hg_ hnew_ o5; clear hb hc0 hc1 hc2 hc3 hc4 hf0 hf1 hf2 hf3 hf4)
    | ((with_reducible refine gate_builtin (b := .append) (xs := #[.tmp 19, .tmp 20]) rfl ?_); at_builtin; refine Kd.R_append_rows k45 (w0 := w) w.heap.size rfl (.tmp 19) (.tmp 20) 36 45 (.agg #[(.string ⟨#[]⟩), (.string ⟨#[]⟩)]) 32 rfl Tryz.underlying36 info45 rfl (by decide) (by omega) v5 [] lp _ _ _ (fun _ => True) (fun _ => False) rfl rfl ?aO ?aR (fun _ _ h => h) (fun _ h => h.elim) ?aF ?aB ?aS ?aL ?_; (case aR => exact Kd.C_below HP.out HB.out); (case aB => exact HB.out); (case aF => exact (fun _ _ => trivial)); (case aO => exact O5.out); (case aS => exact below_size HB.out); (case aL => have := HLN.out; simp only [List.length_nil]; omega); intro v6 w4 o6 hb hg hat; rw [List.nil_append] at o6; replace BT := ak_ (blk_grown BT.out hg (Kd.R_ne O5.out BT.out (by decide))); replace O3 := ak_ (Kd.R_over' O3.out (Kd.R_typed O5.out) (by decide) hg); replace O4 := ak_ (Kd.R_over' O4.out (Kd.R_typed O5.out) (by decide) hg); replace HB := ak_ hb; have O6 := ak_ o6; clear O5 o6 hg hat; obtain ⟨B3, d3, e3⟩ := Kd.R_slice O3.out; subst e3; obtain ⟨B4, d4, e4⟩ := Kd.R_slice O4.out; subst e4; obtain ⟨B6, d6, e6⟩ := Kd.R_slice O6.out; subst e6; clear hb)
    | ((with_reducible refine gate_dst (N := 5) rfl ?_); refine bx_ 5 #[.string (⟨#[]⟩ : ByteArray), .string (⟨#[]⟩ : ByteArray), .string (⟨#[]⟩ : ByteArray), .slice none 0 0, .slice none 0 0] 25 ?_; intro gi hg w5 hbox hb; have BI := ak_ hbox; have GI := ak_ (by rw [hg]; exact Nat.le_refl _ : w4.heap.size ≤ gi); have HL := ak_ hb; have C3 := ak_ (Kd.R_reads' O3.out).2; have C4 := ak_ (Kd.R_reads' O4.out).2; have C6 := ak_ (Kd.R_reads' O6.out).2; clear hb hbox hg O3 O4 O6; obtain ⟨rc0, rc1, rc2, rc3, rc4, rf0, rf1, rf2, rf3, rf4⟩ := c5_ BI))
  have BI2 := ak_ (TgB.put (l' := l) (s' := s) (r' := r) (V3' := .slice B3 V.length d3) (V4' := .slice B4 K.length d4) (show TgB w5 gi ⟨#[]⟩ ⟨#[]⟩ ⟨#[]⟩ (.slice none 0 0) (.slice none 0 0) from BI.out))
  replace HL := ak_ ((((((HL.out.setCell (p := ⟨gi, 0, none⟩) GI.out (.string l)).setCell (p := ⟨gi, 1, none⟩) GI.out (.string s)).setCell (p := ⟨gi, 2, none⟩) GI.out (.string r)).setCell (p := ⟨gi, 3, none⟩) GI.out (.slice B3 V.length d3)).setCell (p := ⟨gi, 4, none⟩) GI.out (.slice B4 K.length d4)))
  clear BI rc0 rc1 rc2 rc3 rc4 rf0 rf1 rf2 rf3 rf4
  have BI := BI2
  clear BI2
  generalize (((((w5.setCell ⟨gi, 0, none⟩ (.string l)).setCell ⟨gi, 1, none⟩ (.string s)).setCell ⟨gi, 2, none⟩ (.string r)).setCell ⟨gi, 3, none⟩ (.slice B3 V.length d3)).setCell ⟨gi, 4, none⟩ (.slice B4 K.length d4)) = w6 at BI HL ⊢
  have BI6 := ak_ BI.out
  have BT6 := ak_ (blk_below BT.out HL.out)
  replace HB := ak_ (below_step HB.out HL.out)
  have V6 := ak_ (show V.length ≤ d3 ∧ Kd.string.C w6 B3 V.length V from ⟨C3.out.1, Kd.C_below C3.out.2 HL.out⟩)
  have K6 := ak_ (show K.length ≤ d4 ∧ k39.C w6 B4 K.length K from ⟨C4.out.1, Kd.C_below C4.out.2 HL.out⟩)
  have P6 := ak_ (show lp.length ≤ d6 ∧ k45.C w6 B6 lp.length lp from ⟨C6.out.1, Kd.C_below C6.out.2 HL.out⟩)
  clear C3 C4 C6 HL BT
  have HL := ak_ (Below.refl w6.heap.size w6)
  obtain ⟨rc0, rc1, rc2, rc3, rc4, rf0, rf1, rf2, rf3, rf4⟩ := c5_ BI
  go_wp2_with (go_at_call 10; refine (tag_Chain.calls k l s r B3 d3 V B4 d4 K B6 d6 lp x e _ V6.out.2 V6.out.1 K6.out.2 K6.out.1 P6.out.2 P6.out.1 (Tbl.below HT.out HB.out) H1.out).mono ?_; rintro _ w7 ⟨v7, rfl, o7, hb⟩; obtain ⟨B7, d7, ad, cur, e7, hmax, hTg⟩ := Tg_.of (Kd.S_R o7); subst e7; have HTg := ak_ hTg; have HMX := ak_ hmax; replace HL := ak_ hb; clear hb o7 hTg hmax rc0 rc1 rc2 rc3 rc4 rf0 rf1 rf2 rf3 rf4 BI)
  go_loopg [9] (x.length + 1) (fun kq v9 w' => ∃ i : Nat, v9 = .int .i64 (i : Int) ∧ Aside0 (kq + i = x.length + 1 ∧ i ≤ x.length) ∧ Aside0 (0 < x.length → B7 = some ad ∧ Tg_ w' w6.heap.size ad x.length cur) ∧ Aside0 (Below w6.heap.size w6 w'))
  case atStart => exact ⟨0, rfl, ⟨by omega, by omega⟩, HTg, HL⟩
  case round =>
    clear HTg HL
    obtain ⟨i, rfl, HI, HTg, HL⟩ := hrel
    obtain ⟨ka, rfl⟩ : ∃ ka, gk = ka + 1 := ⟨gk - 1, by have := HI.out; omega⟩
    by_cases hi : i < x.length
    · obtain ⟨rfl, hG⟩ := HTg.out (by omega)
      obtain ⟨E3, n3, f3, E4, n4, f4, g3, g4, hr3, hr4⟩ := hG.2.2 i hi
      have HG := ak_ hG
      have M3 := ak_ hr3.1
      have M4 := ak_ hr4.1
      have Q3 := ak_ g3
      have Q4 := ak_ g4
      obtain ⟨e1, e2, e3⟩ := lt_facts hi
      have hw0 := wr1 hi HMX.out
      clear hG hr3 hr4 g3 g4 HTg
      go_wp2
      go_loopg [10] (n3 + 1) (fun kq v10 w' => ∃ j : Nat, v10 = .int .i64 (j : Int) ∧ Aside0 (kq + j = n3 + 1 ∧ j ≤ n3) ∧ Aside0 (Tg_ w' w6.heap.size ad x.length cur) ∧ Aside0 (Below w6.heap.size w6 w'))
      case atStart => exact ⟨0, rfl, ⟨by omega, by omega⟩, HG, HL⟩
      case round =>
        clear HG HL
        obtain ⟨j, rfl, HJ, HG, HL⟩ := hrel
        obtain ⟨kb, rfl⟩ : ∃ kb, gk = kb + 1 := ⟨gk - 1, by have := HJ.out; omega⟩
        have y3 := HG.out.cell Q3.out
        by_cases hj : j < n3
        · obtain ⟨a3, u, cs, rfl, z0, zf, zb, zh⟩ := (HG.out.rows hi Q3.out Q4.out).1.at1 hj
          have ZB_ := ak_ zb
          have ZH := ak_ zh
          obtain ⟨j1, j2, j3⟩ := lt_facts hj
          have hw1 := wr1 hj M3.out
          clear zb zh
          go_wp2
          go_roundg kb
          case measure => omega
          case rel => exact ⟨j + 1, by go_num, ⟨by have := HJ.out; omega, by omega⟩, ⟨HG.out.set ZH.out (by decide) _⟩, ⟨HL.out.setCell ZB_.out _⟩⟩
        · obtain ⟨j1, j2⟩ := ge_facts hj
          go_wp2
          clear j1 j2 y3 hj HJ
          go_loopg [11] (n4 + 1) (fun kq v11 w' => ∃ j : Nat, v11 = .int .i64 (j : Int) ∧ Aside0 (kq + j = n4 + 1 ∧ j ≤ n4) ∧ Aside0 (Tg_ w' w6.heap.size ad x.length cur) ∧ Aside0 (Below w6.heap.size w6 w'))
          case atStart => exact ⟨0, rfl, ⟨by omega, by omega⟩, HG, HL⟩
          case round =>
            clear HG HL
            obtain ⟨j, rfl, HJ, HG, HL⟩ := hrel
            obtain ⟨kc, rfl⟩ : ∃ kc, gk = kc + 1 := ⟨gk - 1, by have := HJ.out; omega⟩
            have y4 := HG.out.cell Q4.out
            by_cases hj : j < n4
            · obtain ⟨a4, u, u', cs, rfl, z0, z1, zf, zf', zx, zy, zb, zh⟩ := (HG.out.rows hi Q3.out Q4.out).2.at2 hj
              have ZB_ := ak_ zb
              have ZH := ak_ zh
              obtain ⟨j1, j2, j3⟩ := lt_facts hj
              have hw1 := wr1 hj M4.out
              clear zb zh
              go_wp2
              go_roundg kc
              case measure => omega
              case rel => exact ⟨j + 1, by go_num, ⟨by have := HJ.out; omega, by omega⟩, ⟨HG.out.set2 ZH.out (by decide) _ _ _⟩, ⟨(HL.out.setCell ZB_.out _).setCell (p := ⟨(a4.add (j * 2)).block, (a4.add (j * 2)).off + 1, none⟩) ZB_.out _⟩⟩
            · obtain ⟨j1, j2⟩ := ge_facts hj
              go_wp2
              go_roundg ka
              case measure => omega
              case rel => exact ⟨i + 1, by go_num, ⟨by have := HI.out; omega, by omega⟩, ⟨fun _ => ⟨(by first | rfl | trivial), HG.out⟩⟩, HL⟩
    · obtain ⟨e1, e4⟩ := ge_facts hi
      have BI := ak_ (blk_below BI6.out HL.out)
      have BT := ak_ (blk_below BT6.out HL.out)
      obtain ⟨rc0, rc1, rc2, rc3, rc4, rf0, rf1, rf2, rf3, rf4⟩ := c5_ BI
      go_upto_region 16 with (first
        | (go_at_call 17; refine (tag_Print.back k l s r B3 d3 V B4 d4 K pr _ (Kd.C_below V6.out.2 HL.out) V6.out.1 (Kd.C_below K6.out.2 HL.out) K6.out.1 (Tbl.below HT.out (below_step HB.out HL.out)) H5.out).mono ?_; rintro _ w8 ⟨⟨v8, rfl⟩, hb⟩; replace BI := ak_ (blk_below BI.out hb); replace BT := ak_ (blk_below BT.out hb); replace HL := ak_ (below_step HL.out hb); clear hb rc0 rc1 rc2 rc3 rc4 rf0 rf1 rf2 rf3 rf4; obtain ⟨rc0, rc1, rc2, rc3, rc4, rf0, rf1, rf2, rf3, rf4⟩ := c5_ BI)
        | ((with_reducible refine gate_dst (N := 72) rfl ?_); refine Kd.N_lit k25 _ 25 ?hg (N' := 72) ?hd (xs := [(⟨l, s, r, V, K⟩ : S25)]) (inner := [.string l, .string s, .string r, .slice B3 V.length d3, .slice B4 K.length d4]) (ok := fun _ => True) (okp := fun _ => True) ?hr ?hp (fun _ hk => hk) trivial (Below.refl _ _) (Nat.le_refl _) (by simp) ?_; (case hd => rfl); (case hg => rfl); (case hr => first | (go_simp; done) | (go_simp; rfl)); (case hp => exact (Reps.c5 (TagR_.fk (t := (l, s, r, V, K)) ⟨Kd.C_below V6.out.2 HL.out, V6.out.1, Kd.C_below K6.out.2 HL.out, K6.out.1, fun _ _ _ => trivial, fun _ _ _ => trivial⟩) (Reps.none _ _))); intro v72 w9 hO hb hg_ hnew_; obtain ⟨N1, m1, ee⟩ := Kd.N_slice hO; subst ee; have O1 := ak_ (Kd.N_reads' hO).2.2; replace BI := ak_ (blk_below BI.out hb); replace BT := ak_ (blk_below BT.out hb); replace HL := ak_ (below_step HL.out hb); clear hb hO hg_ hnew_ rc0 rc1 rc2 rc3 rc4 rf0 rf1 rf2 rf3 rf4; obtain ⟨rc0, rc1, rc2, rc3, rc4, rf0, rf1, rf2, rf3, rf4⟩ := c5_ BI)
        | ((with_reducible refine gate_dst (N := 74) rfl ?_); refine Kd.N_lit k25 _ 25 ?hg (N' := 74) ?hd (xs := [(⟨l, s, r, V, K⟩ : S25)]) (inner := [.string l, .string s, .string r, .slice B3 V.length d3, .slice B4 K.length d4]) (ok := fun _ => True) (okp := fun _ => True) ?hr ?hp (fun _ hk => hk) trivial (Below.refl _ _) (Nat.le_refl _) (by simp) ?_; (case hd => rfl); (case hg => rfl); (case hr => first | (go_simp; done) | (go_simp; rfl)); (case hp => exact (Reps.c5 (TagR_.fk (t := (l, s, r, V, K)) ⟨Kd.C_below V6.out.2 HL.out, V6.out.1, Kd.C_below K6.out.2 HL.out, K6.out.1, fun _ _ _ => trivial, fun _ _ _ => trivial⟩) (Reps.none _ _))); intro v74 w10 hO hb hg_ hnew_; obtain ⟨N2, m2, ee⟩ := Kd.N_slice hO; subst ee; have O2 := ak_ (Kd.N_reads' hO).2.2; replace O1 := ak_ (Kd.C_below O1.out hb); replace BI := ak_ (blk_below BI.out hb); replace BT := ak_ (blk_below BT.out hb); replace HL := ak_ (below_step HL.out hb); clear hb hO hg_ hnew_ rc0 rc1 rc2 rc3 rc4 rf0 rf1 rf2 rf3 rf4; obtain ⟨rc0, rc1, rc2, rc3, rc4, rf0, rf1, rf2, rf3, rf4⟩ := c5_ BI)
        | (go_at_call 18; refine (tag_Lookup.calls k ⟨l, s, r, V, K⟩ N1 m1 [⟨l, s, r, V, K⟩] N2 m2 [⟨l, s, r, V, K⟩] B6 d6 lp (x, e) _ O1.out one_at (by simp) O2.out one_at (by simp) (Kd.C_below P6.out.2 HL.out) P6.out.1 (Tbl.below HT.out (below_step HB.out HL.out)) H1.out).mono ?_; rintro _ w11 ⟨⟨v11, rfl⟩, hb⟩; replace BI := ak_ (blk_below BI.out hb); replace BT := ak_ (blk_below BT.out hb); replace HL := ak_ (below_step HL.out hb); clear hb O1 O2 rc0 rc1 rc2 rc3 rc4 rf0 rf1 rf2 rf3 rf4; obtain ⟨rc0, rc1, rc2, rc3, rc4, rf0, rf1, rf2, rf3, rf4⟩ := c5_ BI))
      clear e1 e4 hi HI HTg
      obtain ⟨hc0, hc1, hc2, hc3, hc4, hf0, hf1, hf2, hf3, hf4⟩ := c5_ BT
      go_wp2_with (first
        | (go_at_call 10; refine (tag_Chain.calls k l s r B3 d3 V B4 d4 K B6 d6 lp x e _ (Kd.C_below V6.out.2 HL.out) V6.out.1 (Kd.C_below K6.out.2 HL.out) K6.out.1 (Kd.C_below P6.out.2 HL.out) P6.out.1 (Tbl.below HT.out (below_step HB.out HL.out)) H1.out).mono ?_; rintro _ w12 ⟨v12, rfl, o7, hb⟩; obtain ⟨B9, d9, e9⟩ := Kd.S_slice o7; subst e9; have O9 := ak_ (Kd.S_reads' o7).2; replace BI := ak_ (blk_below BI.out hb); replace BT := ak_ (blk_below BT.out hb); replace HL := ak_ (below_step HL.out hb); clear hb o7 rc0 rc1 rc2 rc3 rc4 rf0 rf1 rf2 rf3 rf4 hc0 hc1 hc2 hc3 hc4 hf0 hf1 hf2 hf3 hf4; obtain ⟨rc0, rc1, rc2, rc3, rc4, rf0, rf1, rf2, rf3, rf4⟩ := c5_ BI; obtain ⟨hc0, hc1, hc2, hc3, hc4, hf0, hf1, hf2, hf3, hf4⟩ := c5_ BT)
        | (go_at_call 19; refine (i7_Chain.calls k l s r A3 c3 V A4 c4 K A1 c1 lp q e _ (Kd.C_below HV.out (below_step HB.out HL.out)) cV (Kd.C_below HK.out (below_step HB.out HL.out)) cK (Kd.C_below HP.out (below_step HB.out HL.out)) cP H2.out).mono ?_; rintro _ w13 ⟨v13, rfl, ⟨B8, d8, rfl, l8, o8⟩, hb⟩; have O8 := ak_ (show q.length ≤ d8 ∧ k25.C w13 B8 q.length q from ⟨l8, o8⟩); replace O9 := ak_ (show x.length ≤ d9 ∧ k25.C w13 B9 x.length x from ⟨O9.out.1, Kd.C_below O9.out.2 hb⟩); have BI9 := ak_ (blk_below BI.out hb); have BT9 := ak_ (blk_below BT.out hb); have HL9 := ak_ (below_step HL.out hb); clear hb l8 o8 BI BT HL rc0 rc1 rc2 rc3 rc4 rf0 rf1 rf2 rf3 rf4 hc0 hc1 hc2 hc3 hc4 hf0 hf1 hf2 hf3 hf4))
      go_loopg [16] (lp.length + 1) (fun kq v16 w' => ∃ i : Nat, v16 = .int .i64 (i : Int) ∧ Aside0 (kq + i = lp.length + 1 ∧ i ≤ lp.length) ∧ Aside0 (Below w13.heap.size w13 w'))
      case atStart => exact ⟨0, rfl, ⟨by omega, by omega⟩, ⟨Below.refl _ _⟩⟩
      case round =>
        obtain ⟨i, rfl, HI, HL⟩ := hrel
        obtain ⟨kb, rfl⟩ : ∃ kb, gk = kb + 1 := ⟨gk - 1, by have := HI.out; omega⟩
        by_cases hi : i < lp.length
        · obtain ⟨e1, e2, e3⟩ := lt_facts hi
          have hw1 := wr1 hi (by have := HLN.out; omega)
          obtain ⟨ad1, rfl, x0, x1⟩ := at_T45 (Kd.C_below P6.out.2 HL9.out) (i : Int) (by omega) (by omega)
          obtain ⟨ad2, rfl, y0, y1⟩ := at_T45 (Kd.C_below HP.out (below_step HB.out HL9.out)) (i : Int) (by omega) (by omega)
          simp only [Int.toNat_natCast] at x0 x1 y0 y1
          replace x0 := (HL.out.cell (World.block_lt_of_cell? w13 _ x0)).trans x0
          replace x1 := (HL.out.cell (World.block_lt_of_cell? w13 _ x1)).trans x1
          replace y0 := (HL.out.cell (World.block_lt_of_cell? w13 _ y0)).trans y0
          replace y1 := (HL.out.cell (World.block_lt_of_cell? w13 _ y1)).trans y1
          have t0 : ((rd_T45 lp (i : Int)).f0.toList == (rd_T45 lp (i : Int)).f0.toList) = true := beq_self_eq_true _
          have t1 : ((rd_T45 lp (i : Int)).f1.toList == (rd_T45 lp (i : Int)).f1.toList) = true := beq_self_eq_true _
          go_wp2
          repeat (go_quiet (fail); try go_wp2)
          go_roundg kb
          case measure => omega
          case rel => exact ⟨i + 1, by go_num, ⟨by have := HI.out; omega, by omega⟩, ⟨by repeat (first | (with_reducible exact HL.out) | apply pw_below_drewN | apply below_drew1)⟩⟩
        · obtain ⟨e1, e4⟩ := ge_facts hi
          have BI := ak_ (blk_below BI9.out HL.out)
          have BT := ak_ (blk_below BT9.out HL.out)
          have HL0 := ak_ HL.out
          replace HL := ak_ (below_step HL9.out HL.out)
          obtain ⟨rc0, rc1, rc2, rc3, rc4, rf0, rf1, rf2, rf3, rf4⟩ := c5_ BI
          obtain ⟨hc0, hc1, hc2, hc3, hc4, hf0, hf1, hf2, hf3, hf4⟩ := c5_ BT
          go_wp2_with (first
            | (go_at_call 13; refine (i7_Same.calls k l s r B3 d3 V B4 d4 K l s r A3 c3 V A4 c4 K true _ (Kd.C_below V6.out.2 HL.out) V6.out.1 (Kd.C_below K6.out.2 HL.out) K6.out.1 (Kd.C_below HV.out (below_step HB.out HL.out)) cV (Kd.C_below HK.out (below_step HB.out HL.out)) cK H6.out).mono ?_; rintro _ w14 ⟨rfl, hb⟩; replace HL := ak_ (below_step HL.out hb); have HL2 := ak_ (hb); clear hb rc0 rc1 rc2 rc3 rc4 rf0 rf1 rf2 rf3 rf4 hc0 hc1 hc2 hc3 hc4 hf0 hf1 hf2 hf3 hf4)
            | (go_at_call 20; refine (l7_same.calls k B9 d9 x B8 d8 q true _ (Kd.C_below O9.out.2 (below_step HL0.out HL2.out)) O9.out.1 (Kd.C_below O8.out.2 (below_step HL0.out HL2.out)) O8.out.1 H3.out (by decide)).mono ?_; rintro _ w15 ⟨rfl, hb⟩; replace HL := ak_ (below_step HL.out hb); clear hb)
            | (go_at_call 12; refine (l7_awake.calls k true _ (Tbl.below HT.out (below_step HB.out HL.out)) H4.out (by decide)).mono ?_; rintro _ w16 ⟨rfl, hb⟩; replace HL := ak_ (below_step HL.out hb); clear hb))
          go_ret
          exact ⟨rfl, below_step HB.out HL.out⟩
end Go.Proofs.YtphjhbppjakocaaGreatDoor.PTag
