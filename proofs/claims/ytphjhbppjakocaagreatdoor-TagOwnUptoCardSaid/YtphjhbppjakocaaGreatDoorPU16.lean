/- Several texts of this claim in one: PU16, PU24, Pl3, Chk3, Chk4, Txt1, Txt2, SameG, Wth1, Chn1, Chn0; conditions: those that each theorem states. -/
import Derived.Test.YtphjhbppjakocaaGreatDoorWInv
import Derived.Test.YtphjhbppjakocaaGreatDoorPl1
import Derived.Test.YtphjhbppjakocaaGreatDoorShelf
import Derived.Test.YtphjhbppjakocaaGreatDoorWN
import Derived.Test.YtphjhbppjakocaaGreatDoorPU13
import Derived.Test.YtphjhbppjakocaaGreatDoorRPut
import Derived.Test.YtphjhbppjakocaaGreatDoorChk1
import Derived.Test.YtphjhbppjakocaaGreatDoorPU7
import Derived.Test.YtphjhbppjakocaaGreatDoorPU22
import Derived.Test.YtphjhbppjakocaaGreatDoorQCopied
set_option linter.unusedVariables false
set_option linter.unusedSimpArgs false
namespace Go.Proofs.YtphjhbppjakocaaGreatDoor.PTag
open Go.RowKit Go.Proofs.YtphjhbppjakocaaGreatDoorW.PrintWords Go.Proofs.YtphjhbppjakocaaGreatDoorW.PrintLast Go.Proofs.YtphjhbppjakocaaGreatDoorW.PrintMore
attribute [local go_sem] max2_int min2_int max_two min_two max_three min_three max_four min_four
attribute [local go_sem] setCell_drewN_ cell_put_twice_ gtr_less_
def tag_Print.f (k:Nat) (aH:ByteArray) (aI:ByteArray) (aJ:ByteArray) (aD:List ByteArray) (aE:List (S39)):Option (ByteArray×Int):=(tag_Check.f k aH aI aJ aD aE).bind fun aQ=>(if aQ=0 then((tag_text.f k aH aI aJ aD aE).bind fun aK=>(if (aK.size:Int)>65536 then(some ((⟨#[]⟩:ByteArray),2)) else(some (aK,0)))) else(some ((⟨#[]⟩:ByteArray),aQ)))
set_option maxHeartbeats 8000000 in
set_option maxRecDepth 100000 in
theorem tag_Print.calls (k:Nat) (aH:ByteArray) (aI:ByteArray) (aJ:ByteArray) (aR:Option Addr) (aT:Nat) (aD:List ByteArray) (aU:Option Addr) (aV:Nat) (aE:List (S39)) (r1:ByteArray) (r2:Int) (w:World) (hr0_3:Kd.C Kd.string w aR aD.length aD) (hc0_3:aD.length≤aT) (hr0_4:Kd.C k39 w aU aE.length aE) (hc0_4:aE.length≤aV) (hT:Tbl w) (h:tag_Print.f k aH aI aJ aD aE=some (r1,r2)) (hr:r2=0):
 Calls Tryz.prog 17 #[.agg #[.string aH,.string aI,.string aJ,.slice aR aD.length aT,.slice aU aE.length aV]] w fun e w'=>e=.returned (.tuple #[.string r1,.int .i64 r2])∧Below w.heap.size w w':=by
 have hu25:=Tryz.underlying25;have bB:=ak_ hr0_3;have bC:=ak_ hc0_3;clear hr0_3 hc0_3;have bD:=ak_ hr0_4;have bE:=ak_ hc0_4;clear hr0_4 hc0_4;have HB:=ak_ (Below.refl w.heap.size w);have HT:=ak_ hT;clear hT;have H:((tag_Check.f k aH aI aJ aD aE).bind fun aQ=>(if aQ=0 then((tag_text.f k aH aI aJ aD aE).bind fun aK=>(if (aK.size:Int)>65536 then(some ((⟨#[]⟩:ByteArray),2)) else(some (aK,0)))) else(some ((⟨#[]⟩:ByteArray),aQ))))=some (r1,r2):=h;clear h;replace H:=Option.bind_eq_some_iff.mp H;obtain⟨aQ,A20,H⟩:=H;try dsimp only at H
 have A2:=ak_ A20;clear A20;by_cases c3:aQ=0
 ·rw [if_pos c3] at H
  obtain⟨bK,bL⟩:=eq2_ c3;clear c3;replace H:=Option.bind_eq_some_iff.mp H;obtain⟨aK,A40,H⟩:=H;try dsimp only at H
  have A4:=ak_ A40;clear A40;by_cases c5:(aK.size:Int)>65536
  ·rw [if_pos c5] at H
   have bA:decide (65536<(aK.size:Int))=true:=decide_eq_true c5;have bM:decide (65536<aK.size)=true:=decide_eq_true (by omega)
   clear c5;simp only [Option.some.injEq,Prod.mk.injEq] at H;obtain⟨rfl,rfl⟩:=H;exact absurd hr (by decide)
  ·rw [if_neg c5] at H
   have bA:decide (65536<(aK.size:Int))=false:=decide_eq_false c5;have bM:decide (65536<aK.size)=false:=decide_eq_false (by omega)
   clear c5;simp only [Option.some.injEq,Prod.mk.injEq] at H;obtain⟨rfl,rfl⟩:=H
   go_enter Tryz.func17,Tryz.ntmps17
   go_wp2_with (first|((with_reducible refine gate_dst (N:=1) rfl ?_);refine box_event ?hg (N:=1) ?hd (cs:=#[.string aH,.string aI,.string aJ,.slice aR aD.length aT,.slice aU aE.length aV]) (t:=25) ?hr ?_;(case hd=>rfl);(case hg=>rfl);(case hr=>first|(go_simp;done)|(go_simp;rfl));intro aM hg w11 hbox hb;have aC:=ak_ (hbox);have GW221:=ak_ (gw_ hg);have GE221:=ak_ (gw_ hg);replace HB:=ak_ (below_step hb_ hb);clear hb hbox hg;have bR:w11.cell? ⟨aM,0,none⟩=some (.string aH):=(blk_cell aC.out 0).trans rfl;have bS:w11.cell? ⟨aM,1,none⟩=some (.string aI):=(blk_cell aC.out 1).trans rfl;have bT:w11.cell? ⟨aM,2,none⟩=some (.string aJ):=(blk_cell aC.out 2).trans rfl;have bU:w11.cell? ⟨aM,3,none⟩=some (.slice aR aD.length aT):=(blk_cell aC.out 3).trans rfl;have bV:w11.cell? ⟨aM,4,none⟩=some (.slice aU aE.length aV):=(blk_cell aC.out 4).trans rfl;have bW:=blk_frozen aC.out 0;have bX:=blk_frozen aC.out 1;have bY:=blk_frozen aC.out 2;have bZ:=blk_frozen aC.out 3;have cA:=blk_frozen aC.out 4)|((with_reducible refine gate_callee (f:=24) rfl ?_);refine gb_ (some 7) Tryz.func24 #[.agg #[.string aH,.string aI,.string aJ,.slice aR aD.length aT,.slice aU aE.length aV]] ?_;(with_reducible refine(tag_Check.calls k aH aI aJ _ _ aD _ _ aE aQ _ ?side1 ?side2 ?side3 ?side4 (Tbl.below HT.out hs_) A2.out).mono ?_);(case side1=>exact cb_ bB);(case side2=>exact bC.out);(case side3=>exact cb_ bD);(case side4=>exact bE.out);rintro e w13 ⟨rfl,hb⟩;refine⟨_,rfl,?_⟩;replace aC:=ak_ (bb_ aC hb);replace HB:=ak_ (below_step hs_ hb);(try clear hb);(try clear hb2);(try clear hk);(try clear hi);have cB:w13.cell? ⟨aM,0,none⟩=some (.string aH):=(blk_cell aC.out 0).trans rfl;have cC:w13.cell? ⟨aM,1,none⟩=some (.string aI):=(blk_cell aC.out 1).trans rfl;have cD:w13.cell? ⟨aM,2,none⟩=some (.string aJ):=(blk_cell aC.out 2).trans rfl;have cE:w13.cell? ⟨aM,3,none⟩=some (.slice aR aD.length aT):=(blk_cell aC.out 3).trans rfl;have cF:w13.cell? ⟨aM,4,none⟩=some (.slice aU aE.length aV):=(blk_cell aC.out 4).trans rfl;have cG:=blk_frozen aC.out 0;have cH:=blk_frozen aC.out 1;have cI:=blk_frozen aC.out 2;have cJ:=blk_frozen aC.out 3;have cK:=blk_frozen aC.out 4)|((with_reducible refine gate_callee (f:=40) rfl ?_);refine gb_ (some 12) Tryz.func40 #[.agg #[.string aH,.string aI,.string aJ,.slice aR aD.length aT,.slice aU aE.length aV]] ?_;(with_reducible refine(tag_text.calls k aH aI aJ _ _ aD _ _ aE aK _ ?side1 ?side2 ?side3 ?side4 A4.out).mono ?_);(case side1=>exact cb_ bB);(case side2=>exact bC.out);(case side3=>exact cb_ bD);(case side4=>exact bE.out);rintro e w15 ⟨rfl,hb⟩;refine⟨_,rfl,?_⟩;replace aC:=ak_ (bb_ aC hb);replace HB:=ak_ (below_step hs_ hb);(try clear hb);(try clear hb2);(try clear hk);(try clear hi)))
   go_ret2
   exact⟨re_,hs_⟩
 ·rw [if_neg c3] at H
  obtain⟨bK,bL⟩:=ne2_ c3;simp only [Option.some.injEq,Prod.mk.injEq] at H;obtain⟨rfl,rfl⟩:=H;exact absurd hr c3
mutual
def tag_split.l0:Nat→ByteArray→List (S89)→Int→Int→Option ((List (S89)))
 |0,_,_,_,_=>none
 |k+1,x0,x3,x4,x5=>if x5≤(x0.size:Int) then(if x5=(x0.size:Int) then(tag_split.j1 k x0 x3 x4 x5 true) else(if 0≤x5 then(if x5<(x0.size:Int) then(if (bt x0 x5)=45 then(tag_split.j1 k x0 x3 x4 x5 true) else(tag_split.j1 k x0 x3 x4 x5 ((bt x0 x5)==95))) else(none)) else(none))) else(some x3)
def tag_split.j1:Nat→ByteArray→List (S89)→Int→Int→Bool→Option ((List (S89)))
 |0,_,_,_,_,_=>none
 |k+1,x0,x3,x4,x5,x27=>if x27=true then(if 0≤x4 then(if x4≤x5 then(if x5≤(x0.size:Int) then(if x3.length<5864062014805 then(tag_split.l0 k x0 (x3++[(⟨x0.extract (x4:Int).toNat (x5:Int).toNat,x4⟩:S89)]) (wrap64 (x5+1)) (wrap64 (x5+1))) else(none)) else(none)) else(none)) else(none)) else(tag_split.l0 k x0 x3 x4 (wrap64 (x5+1)))
end
def tag_split.f (k:Nat) (a0:ByteArray):Option ((List (S89))):=tag_split.l0 k a0 ([]:List (S89)) 0 0
set_option maxHeartbeats 8000000 in
set_option maxRecDepth 100000 in
theorem tag_split.calls (k:Nat) (a0:ByteArray) (r:List (S89)) (w:World) (h:tag_split.f k a0=some r):
 Calls Tryz.prog 45 #[.string a0] w fun e w'=>∃ v0_:Value,e=.returned (v0_)∧Kd.R k89 89 w' w.heap.size (fun _=>True) v0_ r∧Below w.heap.size w w':=by
 have hu89:=Tryz.underlying89;have HB:=ak_ (Below.refl w.heap.size w);have H:(tag_split.l0 k a0 ([]:List (S89)) 0 0)=some r:=h;clear h;have H':=ak_ H;clear H
 go_enter Tryz.func45,Tryz.ntmps45
 go_wp2
 go_loopg [3,4,5] k (fun kq v3 v4 v5 w'=>∃ (aN:List (S89)) (aG:Int) (aA:Int),v4=.int .i64 aG∧v5=.int .i64 aA∧Aside0 (tag_split.l0 kq a0 aN aG aA=some r)∧Aside0 (kq≤k)∧Aside0 (Kd.R k89 89 w' w.heap.size (fun _=>True) v3 aN)∧Aside0 (Below w.heap.size w w'))
 case atStart=>exact ⟨(([]:List (S89))),(0),(0),rr_,rr_,H',⟨Nat.le_refl _⟩,⟨by first|exact Kd.R_nil _ _ _ _ _|exact Kd.N_nil _ _ _ _ _|exact Kd.V_nil _ _ _ _ _|exact Kd.Q_nil _ _ _ _ _|exact Kd.S_nil _ _ _ _ _⟩,⟨hs_⟩⟩
 case round=>
  clear H';obtain⟨aN,aG,aA,rfl,rfl,HA,HK1,HO_3,HB⟩:=hrel;cases gk with
  |zero=>exact absurd HA.out (by simp [tag_split.l0])
  | succ k1=>
   have H:=HA.out;clear HA;simp only [tag_split.l0] at H;by_cases c2:aA≤(a0.size:Int)
   ·rw [if_pos c2] at H
    have bF:decide (aA≤(a0.size:Int))=true:=decide_eq_true c2;clear c2;have HC3:=ak_ H;clear H
    go_upto_region 6 with (fail)
    go_cut [27] (fun v27 wc=>∃ (kq:Nat) (aY:Bool),v27=.bool aY∧Aside0 (tag_split.j1 kq a0 aN aG aA aY=some r)∧Aside0 (kq≤k1)∧Aside0 (Kd.R k89 89 wc w.heap.size (fun _=>True) u3 aN)∧Aside0 (Below w.heap.size w wc))
    case first=>
     have H:=HC3.out;clear HC3;by_cases c4:aA=(a0.size:Int)
     ·rw [if_pos c4] at H
      obtain⟨aW,aZ⟩:=eq2_ c4;clear c4
      (first|rw [aW]|rw [aZ]|rw [bG]|(simp only [i64_w,i32_w];rw [aW])|skip)
      (try simp only [Bool.not_true,Bool.not_false])
      have H':=ak_ H;clear H
      go_wp2
      go_meet
      case rel=>exact ⟨_,(true),rr_,H',⟨by have:=HK1.out;first|omega|exact Nat.le_refl _⟩,⟨by(with_reducible repeat (first|apply Kd.R_alloc|apply Kd.R_drewN|apply Kd.R_drew));exact HO_3.out⟩,⟨hs_⟩⟩
     ·rw [if_neg c4] at H
      obtain⟨aW,aZ⟩:=ne2_ c4
      (first|rw [aW]|rw [aZ]|rw [bG]|(simp only [i64_w,i32_w];rw [aW])|skip)
      (try simp only [Bool.not_true,Bool.not_false])
      by_cases c5:0≤aA
      ·rw [if_pos c5] at H
       have bA:decide (0≤aA)=true:=decide_eq_true c5;clear c5;by_cases c6:aA<(a0.size:Int)
       ·rw [if_pos c6] at H
        have bN:decide (aA<(a0.size:Int))=true:=decide_eq_true c6;clear c6;by_cases c8:(bt a0 aA)=45
        ·rw [if_pos c8] at H
         obtain⟨bH,bI⟩:=eq2_ c8;clear c8;have H':=ak_ H;clear H;have p7:0≤(aA:Int):=od_;have q7:aA<(a0.size:Int):=od_;have hx7:=bt_at a0 aA;replace p7:=eq_true p7;replace q7:=eq_true q7
         go_wp2
         go_meet
         case rel=>exact ⟨_,(true),rr_,H',⟨by have:=HK1.out;first|omega|exact Nat.le_refl _⟩,⟨by(with_reducible repeat (first|apply Kd.R_alloc|apply Kd.R_drewN|apply Kd.R_drew));exact HO_3.out⟩,⟨hs_⟩⟩
        ·rw [if_neg c8] at H
         obtain⟨bH,bI⟩:=ne2_ c8;have H':=ak_ H;clear H;have p7:0≤(aA:Int):=od_;have q7:aA<(a0.size:Int):=od_;have hx7:=bt_at a0 aA;replace p7:=eq_true p7;replace q7:=eq_true q7;have p9:0≤(aA:Int):=od_;have q9:aA<(a0.size:Int):=od_;have hx9:=bt_at a0 aA;replace p9:=eq_true p9;replace q9:=eq_true q9
         go_wp2
         go_meet
         case rel=>exact ⟨_,(((bt a0 aA)==95)),rr_,H',⟨by have:=HK1.out;first|omega|exact Nat.le_refl _⟩,⟨by(with_reducible repeat (first|apply Kd.R_alloc|apply Kd.R_drewN|apply Kd.R_drew));exact HO_3.out⟩,⟨hs_⟩⟩
       ·rw [if_neg c6] at H
        exact absurd H (by simp)
      ·rw [if_neg c5] at H
       exact absurd H (by simp)
    case rest=>
     clear HC3;try clear c2
     try clear bF
     try clear p2
     try clear c4
     try clear aW
     try clear aZ
     try clear bG
     try clear c5
     try clear bA
     try clear c6
     try clear bN
     try clear p7
     try clear q7
     try clear hx7
     try clear c8
     try clear bH
     try clear bI
     try clear p9
     try clear q9
     try clear hx9
     try clear p7
     try clear p9
     try clear q7
     try clear q9
     obtain⟨kq,aY,rfl,HA,HJ2,HO_3,HB⟩:=hcut;cases kq with
     |zero=>exact absurd HA.out (by simp [tag_split.j1])
     | succ kj2=>
      have H:=HA.out;clear HA;simp only [tag_split.j1] at H;by_cases c10:aY=true
      ·subst c10
       replace H:=it_ H;by_cases c11:0≤aG
       ·rw [if_pos c11] at H
        have c11b0:=eq_true c11;have c11b1:decide (0≤aG)=true:=decide_eq_true c11;clear c11;by_cases c12:aG≤aA
        ·rw [if_pos c12] at H
         have c12b0:=eq_true c12;have c12b1:decide (aG≤aA)=true:=decide_eq_true c12;clear c12;by_cases c13:aA≤(a0.size:Int)
         ·rw [if_pos c13] at H
          have c13b0:=eq_true c13;have c13b1:decide (aA≤(a0.size:Int))=true:=decide_eq_true c13;clear c13;by_cases c14:aN.length<5864062014805
          ·rw [if_pos c14] at H
           have bO:=ak_ c14;clear c14;obtain⟨bJ,aX⟩:∃ y_:List (S89),y_=(aN++[(⟨a0.extract (aG:Int).toNat (aA:Int).toNat,aG⟩:S89)]):=⟨_,rfl⟩;replace H:(tag_split.l0 kj2 a0 bJ (wrap64 (aA+1)) (wrap64 (aA+1)))=some r:=by first|(rw [aX];with_reducible exact H)|(have H2_:=(Option.bind_some _ _).symm.trans H;rw [aX];with_reducible exact H2_)|(have H2_:=(Option.bind_some _ _).symm.trans H;with_reducible exact H2_)|with_reducible exact H|(rw [aX];exact H)|exact H
           have bP:=ak_ aX;clear aX;have H':=ak_ H;clear H
           go_wp2_with (first|((with_reducible refine gate_builtin (b:=.append) (xs:=#[.tmp 28,.tmp 35]) rfl ?_);at_builtin;refine Kd.R_append k89 (w0:=w) w.heap.size rfl (.tmp 28) (.tmp 35) 64 89 (.agg #[(.string ⟨#[]⟩),(.int .i64 0)]) 24 rfl Tryz.underlying64 info89 rfl (by decide) (by omega) u3 aN (⟨a0.extract (aG:Int).toNat (aA:Int).toNat,aG⟩:S89) [.string (a0.extract (aG:Int).toNat (aA:Int).toNat),.int .i64 aG] (fun _=>True) (fun _=>False) rfl rfl ?aP (fun _ hk=>hk.elim) ?aF ?aO ?aB ?aS ?aL ?_;(case aP=>exact k89_mkM _ _ _ (⟨a0.extract (aG:Int).toNat (aA:Int).toNat,aG⟩:S89));(case aB=>exact hb_);(case aF=>exact (fun _ _=>trivial));(case aO=>exact (ra_ HO_3));(case aS=>exact hz_);(case aL=>have:=bO.out;omega);intro v225 w15 ho hb hg hat;rw [← bP.out] at ho;replace HB:=ak_ (hb);have bQ:=ak_ (ho);clear HO_3;clear ho hb hg hat))
           go_roundg kj2
           case measure=>have:=HK1.out;have:=HJ2.out;omega
           case rel=>exact ⟨(bJ),(wrap64 (aA+1)),(wrap64 (aA+1)),rr_,rr_,H',⟨by have:=HK1.out;have:=HJ2.out;omega⟩,⟨by(with_reducible repeat (first|apply Kd.R_alloc|apply Kd.R_drewN|apply Kd.R_drew));exact bQ.out⟩,⟨hs_⟩⟩
          ·rw [if_neg c14] at H
           exact absurd H (by simp)
         ·rw [if_neg c13] at H
          exact absurd H (by simp)
        ·rw [if_neg c12] at H
         exact absurd H (by simp)
       ·rw [if_neg c11] at H
        exact absurd H (by simp)
      ·replace c10:=Bool.eq_false_iff.mpr c10
       subst c10;replace H:=if_f_ H;have H':=ak_ H;clear H
       go_wp2
       go_roundg kj2
       case measure=>have:=HK1.out;have:=HJ2.out;omega
       case rel=>exact ⟨(aN),(aG),(wrap64 (aA+1)),rr_,rr_,H',⟨by have:=HK1.out;have:=HJ2.out;omega⟩,⟨by(with_reducible repeat (first|apply Kd.R_alloc|apply Kd.R_drewN|apply Kd.R_drew));exact HO_3.out⟩,⟨hs_⟩⟩
   ·rw [if_neg c2] at H
    have bF:decide (aA≤(a0.size:Int))=false:=decide_eq_false c2;clear c2;obtain rfl:=Option.some.inj H
    go_wp2
    go_ret
    exact⟨_,re_,by(with_reducible repeat (first|apply Kd.R_alloc|apply Kd.R_drewN|apply Kd.R_drew));exact HO_3.out,hs_⟩
def slices_Contains_string_string.f (l0:List ByteArray) (a1:ByteArray):Option Bool:=if l0.length≤9223372036854775807 then some (Lib.containsS l0 a1) else none
theorem slices_Contains_string_string.calls (A0:Option Addr) (c0:Nat) (l0:List ByteArray) (a1:ByteArray) (r:Bool) (w:World) (hr0:Kd.C Kd.string w A0 l0.length l0) (hc0:l0.length≤c0) (h:slices_Contains_string_string.f l0 a1=some r):
 Calls Tryz.prog 38 #[.slice A0 l0.length c0,.string a1] w fun e w'=>e=.returned (.bool r)∧Below w.heap.size w w':=by
 unfold slices_Contains_string_string.f at h;by_cases h1:l0.length≤9223372036854775807
 ·rw [if_pos h1] at h
  obtain rfl:=Option.some.inj h;by_cases h0:0<l0.length
  ·obtain ⟨bk,o,rfl,hlt,hc⟩:=strings_at_ hr0 h0
   refine(Tryz.slices_Contains_string bk o l0.length c0 l0 a1 w (Nat.le_refl _) h1 hc).mono ?_;rintro e w' ⟨rfl,rfl⟩;exact⟨by rw [List.take_length],Below.refl _ _⟩
  ·have hl:l0=[]:=by cases l0 with|nil=>rfl|cons x xs=>simp at h0
   subst hl;refine(Tryz.slices_Contains_string_empty A0 c0 a1 w).mono ?_;rintro e w' ⟨rfl,rfl⟩;exact⟨rfl,Below.refl _ _⟩
 ·rw [if_neg h1] at h;cases h
end Go.Proofs.YtphjhbppjakocaaGreatDoor.PTag
namespace Go.Proofs.YtphjhbppjakocaaGreatDoor.Pl
open Go.RowKit Go.Proofs.YtphjhbppjakocaaGreatDoorW.PrintWords Go.Proofs.YtphjhbppjakocaaGreatDoor.PTag
def sepB (c:UInt8):Bool:=decide (c.toNat=45)||decide (c.toNat=95)
def pcs (s:ByteArray):Nat→Nat→Nat→List S89
 |0,i,b=>[⟨s.extract b i,(b:Int)⟩]
 |d+1,i,b=>if sepB ((L s).getD i 0)=true then⟨s.extract b i,(b:Int)⟩ :: pcs s d (i+1) (i+1) else pcs s d (i+1) b
theorem getD_L {s:ByteArray} {i:Nat} (h:i<s.size):bt s (i:Int)=(((L s).getD i 0).toNat:Int):=by
 rw [bt_L h,List.getD_eq_getElem?_getD,List.getElem?_eq_getElem (by rw [L_len];exact h)];rfl
theorem split_l (s:ByteArray) (hs:s.size≤65536):∀ (d i b:Nat) (acc:List S89),s.size - i=d→i≤s.size→b≤i→acc.length≤i→
 Ev (fun k=>tag_split.l0 k s acc (b:Int) (i:Int)) (acc++pcs s d i b):=by
 intro d;induction d with
 | zero=>
  intro i b acc hd hi hb ha;have:i=s.size:=by omega
  subst this;refine Ev.step (f:=fun k=>tag_split.j1 k s acc b s.size true) (fun k=>?_) (Ev.step (f:=fun k=>tag_split.l0 k s (acc++[⟨s.extract b s.size,(b:Int)⟩]) ((s.size+1:Nat):Int) ((s.size+1:Nat):Int)) (fun k=>?_) (Ev.step (f:=fun _=>some (acc++[⟨s.extract b s.size,(b:Int)⟩])) (fun k=>?_) (Ev.now _)))
  ·simp only [tag_split.l0]
   rw [if_pos (by omega),if_pos trivial]
  ·simp only [tag_split.j1]
   rw [if_pos trivial,if_pos (by omega),if_pos (by omega),if_pos (by omega),if_pos (by omega),w64 (by omega)]
   rfl
  ·simp only [tag_split.l0]
   rw [if_neg (by omega)]
 | succ d ih=>
  intro i b acc hd hi hb ha;have hlt:i<s.size:=by omega
  have hbt:=getD_L hlt;have hw:wrap64 ((i:Int)+1)=((i+1:Nat):Int):=w64 (by omega)
  obtain⟨c,hc⟩:∃ c,c=(L s).getD i 0:=⟨_,rfl⟩;rw [← hc] at hbt;have hcut:∀ x:Bool,(x=true→sepB c=true)→(x=false→sepB c=false)→Ev (fun k=>tag_split.j1 k s acc (b:Int) (i:Int) x) (acc++pcs s (d+1) i b):=by
   intro x h1 h2;cases x with
   | true=>
    have hp:pcs s (d+1) i b=⟨s.extract b i,(b:Int)⟩ :: pcs s d (i+1) (i+1):=by
     show(if sepB ((L s).getD i 0)=true then _ else _)=_;rw [← hc,if_pos (h1 rfl)]
    rw [hp];refine Ev.step (f:=fun k=>tag_split.l0 k s (acc++[⟨s.extract b i,(b:Int)⟩]) ((i+1:Nat):Int) ((i+1:Nat):Int)) (fun k=>?_) ?_
    ·simp only [tag_split.j1]
     rw [if_pos trivial,if_pos (by omega),if_pos (by omega),if_pos (by omega),if_pos (by omega),hw]
     rfl
    ·have:=ih (i+1) (i+1) (acc++[⟨s.extract b i,(b:Int)⟩]) (by omega) (by omega) (by omega) (by simp;omega)
     rw [List.append_assoc] at this;exact this
   | false=>
    have hp:pcs s (d+1) i b=pcs s d (i+1) b:=by
     show(if sepB ((L s).getD i 0)=true then _ else _)=_;rw [← hc,if_neg (by rw [h2 rfl];simp)]
    rw [hp];refine Ev.step (f:=fun k=>tag_split.l0 k s acc (b:Int) ((i+1:Nat):Int)) (fun k=>?_) (ih (i+1) b acc (by omega) (by omega) (by omega) (by omega))
    simp only [tag_split.j1];rw [if_neg (by simp),hw]
  by_cases h45:c.toNat=45
  ·refine Ev.step (f:=fun k=>tag_split.j1 k s acc b i true) (fun k=>?_) (hcut true (fun _=>by simp [sepB,h45]) (fun h=>by cases h))
   simp only [tag_split.l0];rw [if_pos (by omega),if_neg (by omega),if_pos (by omega),if_pos (by omega),hbt,if_pos (by omega)]
  ·refine Ev.step (f:=fun k=>tag_split.j1 k s acc b i (decide (c.toNat=95))) (fun k=>?_) (hcut _ (fun h=>by simp only [decide_eq_true_eq] at h;simp [sepB,h]) (fun h=>by simp only [decide_eq_false_iff_not] at h;simp [sepB,h,h45]))
   simp only [tag_split.l0];rw [if_pos (by omega),if_neg (by omega),if_pos (by omega),if_pos (by omega),hbt,if_neg (by omega)]
   have:((c.toNat:Int)==95)=decide (c.toNat=95):=by rw [Bool.eq_iff_iff];simp;omega
   rw [this]
def pieces (s:ByteArray):List S89:=pcs s s.size 0 0
theorem split_f (s:ByteArray) (hs:s.size≤65536):Ev (fun k=>tag_split.f k s) (pieces s):=by
 have:=split_l s hs s.size 0 0 [] (by omega) (by omega) (by omega) (by simp)
 unfold tag_split.f pieces;simpa using this
def txts (ps:List S89):List ByteArray:=ps.map (·.f0)
def plcs (ps:List S89):List Int:=ps.map (·.f1)
abbrev SEP:ByteArray:=⟨#[45,95]⟩
theorem sep0:bt SEP 0=45:=by decide
theorem sep1:bt SEP 1=95:=by decide
theorem pieces_j2 (s:ByteArray) (hs:s.size≤65536) (xs:List ByteArray) (ys:List Int) (i b:Nat) (x:Bool) (hx:xs.length≤i) (hy:ys.length≤i) (hb:b≤i) (hi:i≤s.size) (n:Int):
 (fun k=>i7_Pieces.j2 (k+1) s SEP xs ys (b:Int) (i:Int) x n false)=fun k=>if x=true then i7_Pieces.l0 k s SEP (xs++[s.extract b i]) (ys++[(b:Int)]) ((i+1:Nat):Int) ((i+1:Nat):Int) else i7_Pieces.l0 k s SEP xs ys (b:Int) ((i+1:Nat):Int):=by
 funext k
 simp only [i7_Pieces.j2];rw [if_neg (by simp),w64 (by omega)]
 cases x with
 |true=>
  rw [if_pos rfl,if_pos rfl,if_pos (by omega),if_pos (by omega),if_pos (by omega),if_pos (by omega),if_pos (by omega)]
  rfl
 |false=>rw [if_neg (by simp),if_neg (by simp)];rfl
theorem pieces_in (s:ByteArray) (hs:s.size≤65536) (xs:List ByteArray) (ys:List Int) (i b:Nat) (c:UInt8) (hc:c=(L s).getD i 0) (hlt:i<s.size) (hx:xs.length≤i) (hy:ys.length≤i) (hb:b≤i) {r:List ByteArray×List Int}
 (h:Ev (fun k=>if sepB c=true then i7_Pieces.l0 k s SEP (xs++[s.extract b i]) (ys++[(b:Int)]) ((i+1:Nat):Int) ((i+1:Nat):Int) else i7_Pieces.l0 k s SEP xs ys (b:Int) ((i+1:Nat):Int)) r):
 Ev (fun k=>i7_Pieces.l1 k s SEP xs ys (b:Int) (i:Int) false 0) r:=by
 have hbt:bt s (i:Int)=(c.toNat:Int):=by rw [hc];exact getD_L hlt
 have hz:((SEP.size:Nat):Int)=2:=rfl;have fin:∀ (x:Bool) (n:Int),x=sepB c→Ev (fun k=>i7_Pieces.j2 k s SEP xs ys (b:Int) (i:Int) x n false) r:=by
  intro x n hxs;refine Ev.step (f:=fun k=>if x=true then i7_Pieces.l0 k s SEP (xs++[s.extract b i]) (ys++[(b:Int)]) ((i+1:Nat):Int) ((i+1:Nat):Int) else i7_Pieces.l0 k s SEP xs ys (b:Int) ((i+1:Nat):Int)) (fun k=>congrFun (pieces_j2 s hs xs ys i b x hx hy hb (by omega) n) k) ?_
  rw [hxs];exact h
 refine Ev.step (f:=fun k=>i7_Pieces.j2 k s SEP xs ys (b:Int) (i:Int) false 0 true) (fun k=>?_) (Ev.step (f:=fun k=>i7_Pieces.l1 k s SEP xs ys (b:Int) (i:Int) (decide (c.toNat=45)) 1) (fun k=>?_) ?_)
 ·simp only [i7_Pieces.l1]
  rw [hz,if_pos (by omega)];rfl
 ·simp only [i7_Pieces.j2]
  rw [if_pos trivial,if_pos (by omega),if_pos (by omega),if_pos (by omega),hz,if_pos (by omega),hbt,sep0]
  have:((c.toNat:Int)==45)=decide (c.toNat=45):=by rw [Bool.eq_iff_iff];simp;omega
  rw [this,show wrap64 (0+1)=1 from w64 (by omega)]
 ·by_cases h45:c.toNat=45
  ·refine Ev.step (f:=fun k=>i7_Pieces.j2 k s SEP xs ys (b:Int) (i:Int) true 1 false) (fun k=>?_) (fin true 1 (by simp [sepB,h45]))
   simp only [i7_Pieces.l1];rw [hz,if_pos (by omega),decide_eq_true h45];rfl
  ·refine Ev.step (f:=fun k=>i7_Pieces.j2 k s SEP xs ys (b:Int) (i:Int) false 1 true) (fun k=>?_) (Ev.step (f:=fun k=>i7_Pieces.l1 k s SEP xs ys (b:Int) (i:Int) (decide (c.toNat=95)) 2) (fun k=>?_) (Ev.step (f:=fun k=>i7_Pieces.j2 k s SEP xs ys (b:Int) (i:Int) (decide (c.toNat=95)) 2 false) (fun k=>?_) (fin _ 2 (by simp [sepB,h45]))))
   ·simp only [i7_Pieces.l1]
    rw [hz,if_pos (by omega),decide_eq_false h45];rfl
   ·simp only [i7_Pieces.j2]
    rw [if_pos trivial,if_pos (by omega),if_pos (by omega),if_pos (by omega),hz,if_pos (by omega),hbt,sep1]
    have:((c.toNat:Int)==95)=decide (c.toNat=95):=by rw [Bool.eq_iff_iff];simp;omega
    rw [this,show wrap64 (1+1)=2 from w64 (by omega)]
   ·simp only [i7_Pieces.l1]
    rw [hz,if_neg (by omega)]
theorem pieces_l (s:ByteArray) (hs:s.size≤65536):∀ (d i b:Nat) (xs:List ByteArray) (ys:List Int),s.size - i=d→i≤s.size→b≤i→xs.length≤i→ys.length≤i→
 Ev (fun k=>i7_Pieces.l0 k s SEP xs ys (b:Int) (i:Int)) (xs++txts (pcs s d i b),ys++plcs (pcs s d i b)):=by
 intro d;induction d with
 | zero=>
  intro i b xs ys hd hi hb hx hy;have:i=s.size:=by omega
  subst this;have hz:((SEP.size:Nat):Int)=2:=rfl;refine Ev.step (f:=fun k=>i7_Pieces.l1 k s SEP xs ys (b:Int) (s.size:Int) true 0) (fun k=>?_) (Ev.step (f:=fun k=>i7_Pieces.j2 k s SEP xs ys (b:Int) (s.size:Int) true 0 false) (fun k=>?_) (Ev.step (f:=fun k=>i7_Pieces.l0 k s SEP (xs++[s.extract b s.size]) (ys++[(b:Int)]) ((s.size+1:Nat):Int) ((s.size+1:Nat):Int)) (fun k=>?_) (Ev.step (f:=fun _=>some (xs++[s.extract b s.size],ys++[(b:Int)])) (fun k=>?_) (Ev.now _))))
  ·simp only [i7_Pieces.l0]
   rw [if_pos (by omega)];simp
  ·simp only [i7_Pieces.l1]
   rw [hz,if_pos (by omega)];rfl
  ·have:=congrFun (pieces_j2 s hs xs ys s.size b true hx hy hb (by omega) 0) k
   rw [if_pos rfl] at this;exact this
  ·simp only [i7_Pieces.l0]
   rw [if_neg (by omega)]
 | succ d ih=>
  intro i b xs ys hd hi hb hx hy;have hlt:i<s.size:=by omega
  refine Ev.step (f:=fun k=>i7_Pieces.l1 k s SEP xs ys (b:Int) (i:Int) false 0) (fun k=>?_) (pieces_in s hs xs ys i b _ rfl hlt hx hy hb ?_)
  ·simp only [i7_Pieces.l0]
   have:((i:Int)==(s.size:Int))=false:=by simp;omega
   rw [if_pos (by omega),this]
  ·show Ev _ (xs++txts (if sepB ((L s).getD i 0)=true then _ else _),ys++plcs (if sepB ((L s).getD i 0)=true then _ else _))
   by_cases hc:sepB ((L s).getD i 0)=true
   ·simp only [if_pos hc]
    have:=ih (i+1) (i+1) (xs++[s.extract b i]) (ys++[(b:Int)]) (by omega) (by omega) (by omega) (by simp;omega) (by simp;omega)
    rw [List.append_assoc,List.append_assoc] at this;exact this
   ·simp only [if_neg hc]
    exact ih (i+1) b xs ys (by omega) (by omega) (by omega) (by omega) (by omega)
theorem pieces_f (s:ByteArray) (hs:s.size≤65536):Ev (fun k=>i7_Pieces.f k s SEP) (txts (pieces s),plcs (pieces s)):=by
 have:=pieces_l s hs s.size 0 0 [] [] (by omega) (by omega) (by omega) (by simp) (by simp)
 unfold i7_Pieces.f pieces;simpa using this
theorem pcs_small (s:ByteArray):∀ (d i b:Nat),∀ p ∈ pcs s d i b,p.f0.size≤s.size:=by
 intro d;induction d with
 |zero=>
  intro i b p hp;obtain rfl:p=_:=by simpa [pcs] using hp
  show(s.extract b i).size≤s.size;rw [ext_size];omega
 | succ d ih=>
  intro i b p hp;unfold pcs at hp;by_cases hc:sepB ((L s).getD i 0)=true
  ·rw [if_pos hc] at hp
   rcases List.mem_cons.1 hp with rfl|hp
   ·show (s.extract b i).size≤s.size
    rw [ext_size];omega
   ·exact ih _ _ p hp
  ·rw [if_neg hc] at hp;exact ih _ _ p hp
theorem pcs_head (s:ByteArray):∀ (d i b:Nat),∃ p r,pcs s d i b=p :: r∧p.f1=(b:Int):=by
 intro d;induction d with
 |zero=>intro i b;exact⟨_,_,rfl,rfl⟩
 |succ d ih=>
  intro i b;unfold pcs;by_cases hc:sepB ((L s).getD i 0)=true
  ·rw [if_pos hc];exact⟨_,_,rfl,rfl⟩
  ·rw [if_neg hc];exact ih _ _
theorem pcs_len (s:ByteArray):∀ (d i b:Nat),(pcs s d i b).length≤d+1:=by
 intro d;induction d with
 |zero=>intro i b;simp [pcs]
 |succ d ih=>
  intro i b;unfold pcs;by_cases hc:sepB ((L s).getD i 0)=true
  ·rw [if_pos hc,List.length_cons];have:=ih (i+1) (i+1);omega
  ·rw [if_neg hc];have:=ih (i+1) b;omega
abbrev Ke:=S39
def rise (pr:Option ByteArray) (v:ByteArray):Int:=match pr with
 |none=>0
 |some p=>if p.toList=v.toList then 6 else if Op.bytesLess v.toList p.toList=true then 70 else 0
def vcP:Option ByteArray→List ByteArray→Int
 |_,[]=>0
 |pr,v :: vs=>if vart (L v)=true then(if low v=v then(if rise pr v=0 then vcP (some v) vs else rise pr v) else 70) else 70
def kcP:Option Ke→List Ke→Int
 |_,[]=>0
 |pr,x :: ks=>if sgns (L x.f0) 2 2=true then(if low x.f0=x.f0 then(if valP x.f1=true then(if rise (pr.map (·.f0)) x.f0=0 then kcP (some x) ks else rise (pr.map (·.f0)) x.f0) else 70) else 70) else 70
def restK (K:List Ke):Int:=if K.length>64 then 5 else kcP none K
def contP (V:List ByteArray) (K:List Ke):Int:=if V.length>64 then 5 else if vcP none V=0 then restK K else vcP none V
def langOk (l:ByteArray):Bool:=decide (L l=[])||(lets (L l) 2 3&&(decide (low l=l)&&decide (L l≠[117,110,100])))
def scrOk (s:ByteArray):Bool:=decide (L s=[])||(lets (L s) 4 4&&decide (titl s=s))
def regOk (r:ByteArray):Bool:=decide (L r=[])||(regn (L r)&&decide (upp r=r))
def checkP (l s r:ByteArray) (V:List ByteArray) (K:List Ke):Int:=if langOk l=true then(if scrOk s=true then(if regOk r=true then contP V K else 70) else 70) else 70
def B:Nat:=1048576
structure Sz (l s r:ByteArray) (V:List ByteArray) (K:List Ke):Prop where
 l:l.size≤1048576
 s:s.size≤1048576
 r:r.size≤1048576
 nV:V.length≤1048576
 nK:K.length≤1048576
 vV:∀ v ∈ V,v.size≤1048576
 vK:∀ x ∈ K,x.f0.size≤1048576∧x.f1.size≤1048576
def At {α:Type} (V:List α) (i:Nat) (pr:Option α) (ys:List α):Prop:=V.drop i=ys∧(match pr with
 |none=>i=0
 |some p=>∃ j,i=j+1∧V.drop j=p :: ys)
theorem drop_cons {α:Type} {V:List α} {i:Nat} {y:α} {ys:List α} (h:V.drop i=y :: ys):i<V.length∧V[i]?=some y∧V.drop (i+1)=ys:=by
 have hi:i<V.length:=Classical.byContradiction fun hc=>by rw [List.drop_eq_nil_of_le (by omega)] at h;cases h
 have h2:=List.drop_eq_getElem_cons hi;rw [h] at h2;obtain⟨e1,e2⟩:=List.cons.inj h2;exact⟨hi,by rw [List.getElem?_eq_getElem hi,← e1],e2.symm⟩
theorem At.next {α:Type} {V:List α} {i:Nat} {pr:Option α} {y:α} {ys:List α} (h:At V i pr (y :: ys)):At V (i+1) (some y) ys:=⟨(drop_cons h.1).2.2,i,rfl,h.1⟩
theorem At.start {α:Type} (V:List α):At V 0 none V:=⟨rfl,rfl⟩
theorem rdOf_c {V:List ByteArray} {i:Nat} {y:ByteArray} (h:V[i]?=some y):rdOf ByteArray.empty V (i:Int)=y:=by simp [rdOf,h]
theorem rdK_c {V:List Ke} {i:Nat} {y:Ke} (h:V[i]?=some y):rd_T39 V (i:Int)=y:=by simp [rd_T39,h]
theorem w64_pred (j:Nat) (h:j≤1048576):wrap64 (((j+1:Nat):Int) - 1)=(j:Int):=by rw [w64 (by omega)];omega
theorem rising_f (p v:ByteArray):tag_rising.f p v=some (rise (some p) v):=by
 unfold tag_rising.f;show _=some (if p.toList=v.toList then 6 else if Op.bytesLess v.toList p.toList=true then 70 else 0);by_cases h1:p.toList=v.toList
 ·rw [if_pos h1,if_pos h1]
 ·rw [if_neg h1,if_neg h1]
  split <;> rfl
theorem ne_low (v:ByteArray):(v.toList != (low v).toList)=!decide (low v=v):=by
 rw [toList_L,toList_L];by_cases h:low v=v
 ·rw [decide_eq_true h,h];simp
 ·rw [decide_eq_false h]
  simp only [Bool.not_false,bne_iff_ne,ne_eq];exact fun e=>h (L_inj e).symm
section
variable {l s r:ByteArray} {V:List ByteArray} {K:List Ke} (z:Sz l s r V K)
include z
theorem tj4 {i:Nat} {pr:Option ByteArray} {v:ByteArray} {ys:List ByteArray} (h:At V i pr (v :: ys)) {X:Int} (hX:Ev (fun k=>tag_Check.l0 k V (V.length:Int) ((i+1:Nat):Int) l s r V K) X):
 Ev (fun k=>tag_Check.j4 k (i:Int) v V (V.length:Int) (i:Int) false l s r V K) (if rise pr v=0 then X else rise pr v):=by
 have hn:=z.nV;have hi:=(drop_cons h.1).1;have hw:wrap64 ((i:Int)+1)=((i+1:Nat):Int):=w64 (by omega)
 cases pr with
 |none=>
  have h0:i=0:=h.2;subst h0;show Ev _ X;refine Ev.step (fun k=>?_) hX;simp only [tag_Check.j4];rw [if_neg (by simp),if_neg (by omega),hw]
 | some p=>
  obtain⟨j,rfl,hj⟩:=h.2;have hp:=rdOf_c (drop_cons hj).2.1;have hjl:=(drop_cons hj).1;refine Ev.step (f:=fun k=>if rise (some p) v=0 then tag_Check.l0 k V (V.length:Int) ((j+1+1:Nat):Int) l s r V K else some (rise (some p) v)) (fun k=>?_) ?_
  ·simp only [tag_Check.j4]
   rw [if_neg (by simp),if_pos (by omega),w64_pred j (by omega),if_pos (by omega),if_pos (by omega),hp,rising_f,hw]
   rfl
  ·split
   ·exact hX
   ·exact Ev.now _
theorem tl0 (hK:Ev (fun k=>if (K.length:Int)>64 then some 5 else tag_Check.l1 k K (K.length:Int) 0 l s r V K) (restK K)):∀ (ys:List ByteArray) (pr:Option ByteArray) (i:Nat),At V i pr ys→
 Ev (fun k=>tag_Check.l0 k V (V.length:Int) (i:Int) l s r V K) (if vcP pr ys=0 then restK K else vcP pr ys)
 |[],pr,i,h=>by
  have hi:V.length≤i:=List.drop_eq_nil_iff.1 h.1;show Ev _ (restK K);refine Ev.step (fun k=>?_) hK;simp only [tag_Check.l0];rw [if_neg (by omega)]
 | v :: ys,pr,i,h=>by
  have ih:=tl0 hK ys (some v) (i+1) h.next;obtain⟨hi,hv,_⟩:=drop_cons h.1;have hz:=z.vV v (List.mem_of_getElem? hv);have h4:=tj4 z h ih;refine Ev.step (f:=fun k=>(tag_variant.f k v).bind fun t=>if t=true then(tag_lower.f v).bind fun u=>tag_Check.j4 k (i:Int) v V (V.length:Int) (i:Int) (v.toList != u.toList) l s r V K else tag_Check.j4 k (i:Int) v V (V.length:Int) (i:Int) true l s r V K) (fun k=>?_) (Ev.bind (variant_f v (by omega)) ?_)
  ·simp only [tag_Check.l0]
   rw [if_pos (by omega),if_pos (by omega),if_pos (by omega),rdOf_c hv]
  ·have bad:Ev (fun k=>tag_Check.j4 k (i:Int) v V (V.length:Int) (i:Int) true l s r V K) 70:=Ev.step (f:=fun _=>some 70) (fun k=>by simp [tag_Check.j4]) (Ev.now _)
   unfold vcP;cases ha:vart (L v) with
   |false=>simpa using bad
   | true=>
    simp only [if_true];rw [lower_f v (by omega)]
    simp only [Option.bind_some,ne_low];by_cases hl:low v=v
    ·rw [decide_eq_true hl,if_pos hl]
     show Ev (fun k=>tag_Check.j4 k (i:Int) v V (V.length:Int) (i:Int) false l s r V K) _;have e:(if (if rise pr v=0 then vcP (some v) ys else rise pr v)=0 then restK K else(if rise pr v=0 then vcP (some v) ys else rise pr v))=if rise pr v=0 then(if vcP (some v) ys=0 then restK K else vcP (some v) ys) else rise pr v:=by
      by_cases hr:rise pr v=0
      ·simp only [if_pos hr]
      ·simp only [if_neg hr]
     rw [e];exact h4
    ·rw [decide_eq_false hl,if_neg hl]
     simpa using bad
theorem tj6 {i:Nat} {pr:Option Ke} {v:Ke} {ys:List Ke} (h:At K i pr (v :: ys)) {X:Int} (hX:Ev (fun k=>tag_Check.l1 k K (K.length:Int) ((i+1:Nat):Int) l s r V K) X):
 Ev (fun k=>tag_Check.j6 k (i:Int) K (K.length:Int) (i:Int) false l s r V K v.f0 v.f1) (if rise (pr.map (·.f0)) v.f0=0 then X else rise (pr.map (·.f0)) v.f0):=by
 have hn:=z.nK;have hi:=(drop_cons h.1).1;have hw:wrap64 ((i:Int)+1)=((i+1:Nat):Int):=w64 (by omega)
 cases pr with
 |none=>
  have h0:i=0:=h.2;subst h0;show Ev _ X;refine Ev.step (fun k=>?_) hX;simp only [tag_Check.j6];rw [if_neg (by simp),if_neg (by omega),hw]
 | some p=>
  obtain⟨j,rfl,hj⟩:=h.2;have hp:=rdK_c (drop_cons hj).2.1;have hjl:=(drop_cons hj).1;refine Ev.step (f:=fun k=>if rise (some p.f0) v.f0=0 then tag_Check.l1 k K (K.length:Int) ((j+1+1:Nat):Int) l s r V K else some (rise (some p.f0) v.f0)) (fun k=>?_) ?_
  ·simp only [tag_Check.j6]
   rw [if_neg (by simp),if_pos (by omega),w64_pred j (by omega),if_pos (by omega),if_pos (by omega),hp,rising_f,hw]
   rfl
  ·show Ev _ (if rise (some p.f0) v.f0=0 then X else rise (some p.f0) v.f0)
   split
   ·exact hX
   ·exact Ev.now _
theorem tl1:∀ (ys:List Ke) (pr:Option Ke) (i:Nat),At K i pr ys→Ev (fun k=>tag_Check.l1 k K (K.length:Int) (i:Int) l s r V K) (kcP pr ys)
 |[],pr,i,h=>by
  have hi:K.length≤i:=List.drop_eq_nil_iff.1 h.1;refine Ev.step (f:=fun _=>some 0) (fun k=>?_) (Ev.now _);simp only [tag_Check.l1];rw [if_neg (by omega)]
 | v :: ys,pr,i,h=>by
  have ih:=tl1 ys (some v) (i+1) h.next;obtain⟨hi,hv,_⟩:=drop_cons h.1;have hz:=z.vK v (List.mem_of_getElem? hv);have h6:=tj6 z h ih;have bad:Ev (fun k=>tag_Check.j6 k (i:Int) K (K.length:Int) (i:Int) true l s r V K v.f0 v.f1) 70:=Ev.step (f:=fun _=>some 70) (fun k=>by simp [tag_Check.j6]) (Ev.now _)
  refine Ev.step (f:=fun k=>(tag_signs.f k v.f0 2 2).bind fun t=>if t=true then(tag_lower.f v.f0).bind fun u=>if v.f0.toList=u.toList then(tag_valued.f k v.f1).bind fun q=>tag_Check.j6 k (i:Int) K (K.length:Int) (i:Int) (!q) l s r V K v.f0 v.f1 else tag_Check.j6 k (i:Int) K (K.length:Int) (i:Int) true l s r V K v.f0 v.f1 else tag_Check.j6 k (i:Int) K (K.length:Int) (i:Int) true l s r V K v.f0 v.f1) (fun k=>?_) (Ev.bind (signs_f v.f0 2 2 (by omega)) ?_)
  ·simp only [tag_Check.l1]
   rw [if_pos (by omega),if_pos (by omega),if_pos (by omega),rdK_c hv]
  ·unfold kcP
   cases ha:sgns (L v.f0) 2 2 with
   |false=>simpa using bad
   | true=>
    simp only [if_true];rw [lower_f v.f0 (by omega)]
    simp only [Option.bind_some];by_cases hl:low v.f0=v.f0
    ·rw [if_pos hl]
     simp only [hl,if_true];refine Ev.bind (valued_f v.f1 hz.2) ?_;cases hq:valP v.f1 with
     |true=>simpa using h6
     |false=>simpa using bad
    ·rw [if_neg hl]
     have:¬ v.f0.toList=(low v.f0).toList:=fun e=>hl (L_inj (by rw [toList_L,toList_L] at e;exact e)).symm
     simp only [if_neg this];exact bad
theorem tk:Ev (fun k=>if (K.length:Int)>64 then some 5 else tag_Check.l1 k K (K.length:Int) 0 l s r V K) (restK K):=by
 unfold restK;by_cases h:K.length>64
 ·rw [if_pos h];simp only [if_pos (show(K.length:Int)>64 by omega)];exact Ev.now _
 ·rw [if_neg h];simp only [if_neg (show ¬ (K.length:Int)>64 by omega)];exact tl1 z K none 0 (At.start K)
theorem tj2:Ev (fun k=>tag_Check.j2 k false l s r V K) (contP V K):=by
 unfold contP;refine Ev.step (f:=fun k=>if (V.length:Int)>64 then some 5 else tag_Check.l0 k V (V.length:Int) 0 l s r V K) (fun k=>by simp only [tag_Check.j2];rw [if_neg (by simp)]) ?_
 by_cases h:V.length>64
 ·rw [if_pos h];simp only [if_pos (show(V.length:Int)>64 by omega)];exact Ev.now _
 ·rw [if_neg h];simp only [if_neg (show ¬ (V.length:Int)>64 by omega)];exact tl0 z (tk z) V none 0 (At.start V)
theorem check_f:Ev (fun k=>tag_Check.f k l s r V K) (checkP l s r V K):=by
 have b0:Ev (fun k=>tag_Check.j0 k true l s r V K) 70:=Ev.step (f:=fun _=>some 70) (fun k=>by simp [tag_Check.j0]) (Ev.now _)
 have b1:Ev (fun k=>tag_Check.j1 k true l s r V K) 70:=Ev.step (f:=fun _=>some 70) (fun k=>by simp [tag_Check.j1]) (Ev.now _)
 have b2:Ev (fun k=>tag_Check.j2 k true l s r V K) 70:=Ev.step (f:=fun _=>some 70) (fun k=>by simp [tag_Check.j2]) (Ev.now _)
 have c1:Ev (fun k=>tag_Check.j1 k false l s r V K) (if regOk r=true then contP V K else 70):=by
  refine Ev.step (fun k=>by simp only [tag_Check.j1];rw [if_neg (by simp)]) ?_
  unfold regOk;rw [toList_L];by_cases h0:L r=[]
  ·rw [decide_eq_true h0];simp only [if_pos h0];exact tj2 z
  ·rw [decide_eq_false h0,Bool.false_or];simp only [if_neg h0]
   refine Ev.bind (region_f r (by have:=z.r;omega)) ?_
   cases hr:regn (L r) with
   |false=>simpa using b2
   | true=>
    simp only [if_true,Bool.true_and];rw [upper_f r (by have:=z.r;omega)]
    simp only [Option.bind_some,toList_L];by_cases hu:upp r=r
    ·rw [hu];simpa using tj2 z
    ·have:(L r != L (upp r))=true:=by simp only [bne_iff_ne,ne_eq];exact fun e=>hu (L_inj e).symm
     rw [this];simpa [hu] using b2
 have c0:Ev (fun k=>tag_Check.j0 k false l s r V K) (if scrOk s=true then(if regOk r=true then contP V K else 70) else 70):=by
  refine Ev.step (fun k=>by simp only [tag_Check.j0];rw [if_neg (by simp)]) ?_
  unfold scrOk;rw [toList_L];by_cases h0:L s=[]
  ·rw [decide_eq_true h0];simp only [if_pos h0];exact c1
  ·rw [decide_eq_false h0,Bool.false_or];simp only [if_neg h0]
   refine Ev.bind (letters_f s 4 4 (by have:=z.s;omega)) ?_
   cases hr:lets (L s) 4 4 with
   |false=>simpa using b1
   | true=>
    have hlen:1≤s.size:=by unfold lets at hr;simp only [Bool.and_eq_true,decide_eq_true_eq] at hr;rw [L_len] at hr;omega
    simp only [if_true,Bool.true_and];rw [title_f s (by have:=z.s;omega) hlen]
    simp only [Option.bind_some,toList_L];by_cases hu:titl s=s
    ·rw [hu];simpa using c1
    ·have:(L s != L (titl s))=true:=by simp only [bne_iff_ne,ne_eq];exact fun e=>hu (L_inj e).symm
     rw [this];simpa [hu] using b1
 unfold tag_Check.f checkP langOk;rw [toList_L];by_cases h0:L l=[]
 ·rw [decide_eq_true h0];simp only [if_pos h0];exact c0
 ·rw [decide_eq_false h0,Bool.false_or];simp only [if_neg h0]
  refine Ev.bind (letters_f l 2 3 (by have:=z.l;omega)) ?_
  cases hr:lets (L l) 2 3 with
  |false=>simpa using b0
  | true=>
   simp only [if_true,Bool.true_and];rw [lower_f l (by have:=z.l;omega)]
   simp only [Option.bind_some,toList_L];by_cases hu:low l=l
   ·rw [hu]
    simp only [if_true];by_cases h3:L l=[117,110,100]
    ·have:(L l==[117,110,100])=true:=by rw [h3];rfl
     rw [this];simpa [h3] using b0
    ·have:(L l==[117,110,100])=false:=by simpa using h3
     rw [this];simpa [h3] using c0
   ·have:¬ L l=L (low l):=fun e=>hu (L_inj e).symm
    simp only [if_neg this];simpa [hu] using b0
end
theorem low_ne (v:ByteArray):((low v).toList != v.toList)=!decide (low v=v):=by
 rw [toList_L,toList_L];by_cases h:low v=v
 ·rw [decide_eq_true h,h];simp
 ·rw [decide_eq_false h]
  simp only [Bool.not_false,bne_iff_ne,ne_eq];exact fun e=>h (L_inj e)
theorem smallF (s:ByteArray) (h:s.size≤1048576):i7_Small.f s=some (low s):=by unfold i7_Small.f;rw [if_pos (by omega)];rfl
theorem greatF (s:ByteArray) (h:s.size≤1048576):i7_great.f s=some (upp s):=by unfold i7_great.f;rw [if_pos (by omega)];rfl
theorem rise_some (p v:ByteArray):rise (some p) v=if p.toList=v.toList then 6 else if Op.bytesLess v.toList p.toList=true then 70 else 0:=rfl
section
variable {l s r:ByteArray} {V:List ByteArray} {K:List Ke} (z:Sz l s r V K)
include z
theorem rj2 {i:Nat} {pr:Option ByteArray} {v:ByteArray} {ys:List ByteArray} (h:At V i pr (v :: ys)) {X:Int} (hX:Ev (fun k=>i7_Check.l0 k ((i+1:Nat):Int) l s r V K) X):
 Ev (fun k=>i7_Check.j2 k (i:Int) v false l s r V K) (if rise pr v=0 then X else rise pr v):=by
 have hn:=z.nV;have hi:=(drop_cons h.1).1;have hw:wrap64 ((i:Int)+1)=((i+1:Nat):Int):=w64 (by omega)
 cases pr with
 |none=>
  have h0:i=0:=h.2;subst h0;show Ev _ X;refine Ev.step (f:=fun k=>i7_Check.j3 k ((0:Nat):Int) v false l s r V K) (fun k=>?_) (Ev.step (f:=fun k=>i7_Check.j4 k ((0:Nat):Int) false l s r V K) (fun k=>?_) (Ev.step (fun k=>?_) hX))
  ·simp only [i7_Check.j2];rw [if_neg (by simp),if_neg (by omega)]
  ·simp only [i7_Check.j3];rw [if_neg (by simp),if_neg (by omega)]
  ·simp only [i7_Check.j4];rw [if_neg (by simp),hw]
 | some p=>
  obtain⟨j,rfl,hj⟩:=h.2;have hp:=rdOf_c (drop_cons hj).2.1;have hjl:=(drop_cons hj).1;refine Ev.step (f:=fun k=>i7_Check.j3 k ((j+1:Nat):Int) v (p.toList==v.toList) l s r V K) (fun k=>?_) ?_
  ·simp only [i7_Check.j2]
   rw [if_neg (by simp),if_pos (by omega),w64_pred j (by omega),if_pos (by omega),if_pos (by omega),hp]
  ·rw [rise_some]
   by_cases h1:p.toList=v.toList
   ·rw [if_pos h1]
    have e:(p.toList==v.toList)=true:=beq_iff_eq.2 h1;rw [e];exact Ev.step (f:=fun _=>some 6) (fun k=>by simp [i7_Check.j3]) (Ev.now _)
   ·rw [if_neg h1]
    have e:(p.toList==v.toList)=false:=beq_eq_false_iff_ne.2 h1;rw [e];refine Ev.step (f:=fun k=>i7_Check.j4 k ((j+1:Nat):Int) (Op.bytesLess v.toList p.toList) l s r V K) (fun k=>?_) ?_
    ·simp only [i7_Check.j3]
     rw [if_neg (by simp),if_pos (by omega),w64_pred j (by omega),if_pos (by omega),if_pos (by omega),hp]
    ·cases hb:Op.bytesLess v.toList p.toList with
     |true=>exact Ev.step (f:=fun _=>some 70) (fun k=>by simp [i7_Check.j4]) (Ev.now _)
     |false=>
      show Ev _ X;refine Ev.step (fun k=>?_) hX;simp only [i7_Check.j4];rw [if_neg (by simp),hw]
theorem rl0 (hK:Ev (fun k=>if (K.length:Int)>64 then some 5 else i7_Check.l1 k 0 l s r V K) (restK K)):∀ (ys:List ByteArray) (pr:Option ByteArray) (i:Nat),At V i pr ys→
 Ev (fun k=>i7_Check.l0 k (i:Int) l s r V K) (if vcP pr ys=0 then restK K else vcP pr ys)
 |[],pr,i,h=>by
  have hi:V.length≤i:=List.drop_eq_nil_iff.1 h.1;show Ev _ (restK K);refine Ev.step (fun k=>?_) hK;simp only [i7_Check.l0];rw [if_neg (by omega)]
 | v :: ys,pr,i,h=>by
  have ih:=rl0 hK ys (some v) (i+1) h.next;obtain⟨hi,hv,_⟩:=drop_cons h.1;have hz:=z.vV v (List.mem_of_getElem? hv);have h4:=rj2 z h ih;refine Ev.step (f:=fun k=>(i7_variant.f k v).bind fun t=>if t=true then(i7_Small.f v).bind fun u=>i7_Check.j2 k (i:Int) v (u.toList != v.toList) l s r V K else i7_Check.j2 k (i:Int) v true l s r V K) (fun k=>?_) (Ev.bind (rvariant_f v (by omega)) ?_)
  ·simp only [i7_Check.l0]
   rw [if_pos (by omega),if_pos (by omega),rdOf_c hv]
  ·have bad:Ev (fun k=>i7_Check.j2 k (i:Int) v true l s r V K) 70:=Ev.step (f:=fun _=>some 70) (fun k=>by simp [i7_Check.j2]) (Ev.now _)
   unfold vcP;cases ha:vart (L v) with
   |false=>simpa using bad
   | true=>
    simp only [if_true];rw [smallF v hz];simp only [Option.bind_some,low_ne];by_cases hl:low v=v
    ·rw [decide_eq_true hl,if_pos hl]
     show Ev (fun k=>i7_Check.j2 k (i:Int) v false l s r V K) _;have e:(if (if rise pr v=0 then vcP (some v) ys else rise pr v)=0 then restK K else(if rise pr v=0 then vcP (some v) ys else rise pr v))=if rise pr v=0 then(if vcP (some v) ys=0 then restK K else vcP (some v) ys) else rise pr v:=by
      by_cases hr:rise pr v=0
      ·simp only [if_pos hr]
      ·simp only [if_neg hr]
     rw [e];exact h4
    ·rw [decide_eq_false hl,if_neg hl]
     simpa using bad
theorem rj6 {i:Nat} {pr:Option Ke} {v:Ke} {ys:List Ke} (h:At K i pr (v :: ys)) {X:Int} (hX:Ev (fun k=>i7_Check.l1 k ((i+1:Nat):Int) l s r V K) X):
 Ev (fun k=>i7_Check.j6 k (i:Int) false l s r V K v.f0 v.f1) (if rise (pr.map (·.f0)) v.f0=0 then X else rise (pr.map (·.f0)) v.f0):=by
 have hn:=z.nK;have hi:=(drop_cons h.1).1;have hw:wrap64 ((i:Int)+1)=((i+1:Nat):Int):=w64 (by omega)
 cases pr with
 |none=>
  have h0:i=0:=h.2;subst h0;show Ev _ X;refine Ev.step (f:=fun k=>i7_Check.j7 k ((0:Nat):Int) false l s r V K v.f0 v.f1) (fun k=>?_) (Ev.step (f:=fun k=>i7_Check.j8 k ((0:Nat):Int) false l s r V K) (fun k=>?_) (Ev.step (fun k=>?_) hX))
  ·simp only [i7_Check.j6];rw [if_neg (by simp),if_neg (by omega)]
  ·simp only [i7_Check.j7];rw [if_neg (by simp),if_neg (by omega)]
  ·simp only [i7_Check.j8];rw [if_neg (by simp),hw]
 | some p=>
  obtain⟨j,rfl,hj⟩:=h.2;have hp:=rdK_c (drop_cons hj).2.1;have hjl:=(drop_cons hj).1;show Ev _ (if rise (some p.f0) v.f0=0 then X else rise (some p.f0) v.f0);refine Ev.step (f:=fun k=>i7_Check.j7 k ((j+1:Nat):Int) (p.f0.toList==v.f0.toList) l s r V K v.f0 v.f1) (fun k=>?_) ?_
  ·simp only [i7_Check.j6]
   rw [if_neg (by simp),if_pos (by omega),w64_pred j (by omega),if_pos (by omega),if_pos (by omega),hp]
  ·rw [rise_some]
   by_cases h1:p.f0.toList=v.f0.toList
   ·rw [if_pos h1]
    have e:(p.f0.toList==v.f0.toList)=true:=beq_iff_eq.2 h1;rw [e];exact Ev.step (f:=fun _=>some 6) (fun k=>by simp [i7_Check.j7]) (Ev.now _)
   ·rw [if_neg h1]
    have e:(p.f0.toList==v.f0.toList)=false:=beq_eq_false_iff_ne.2 h1;rw [e];refine Ev.step (f:=fun k=>i7_Check.j8 k ((j+1:Nat):Int) (Op.bytesLess v.f0.toList p.f0.toList) l s r V K) (fun k=>?_) ?_
    ·simp only [i7_Check.j7]
     rw [if_neg (by simp),if_pos (by omega),w64_pred j (by omega),if_pos (by omega),if_pos (by omega),hp]
    ·cases hb:Op.bytesLess v.f0.toList p.f0.toList with
     |true=>exact Ev.step (f:=fun _=>some 70) (fun k=>by simp [i7_Check.j8]) (Ev.now _)
     |false=>
      show Ev _ X;refine Ev.step (fun k=>?_) hX;simp only [i7_Check.j8];rw [if_neg (by simp),hw]
theorem rl1:∀ (ys:List Ke) (pr:Option Ke) (i:Nat),At K i pr ys→Ev (fun k=>i7_Check.l1 k (i:Int) l s r V K) (kcP pr ys)
 |[],pr,i,h=>by
  have hi:K.length≤i:=List.drop_eq_nil_iff.1 h.1;refine Ev.step (f:=fun _=>some 0) (fun k=>?_) (Ev.now _);simp only [i7_Check.l1];rw [if_neg (by omega)]
 | v :: ys,pr,i,h=>by
  have ih:=rl1 ys (some v) (i+1) h.next;obtain⟨hi,hv,_⟩:=drop_cons h.1;have hz:=z.vK v (List.mem_of_getElem? hv);have h6:=rj6 z h ih;have bad:Ev (fun k=>i7_Check.j6 k (i:Int) true l s r V K v.f0 v.f1) 70:=Ev.step (f:=fun _=>some 70) (fun k=>by simp [i7_Check.j6]) (Ev.now _)
  refine Ev.step (f:=fun k=>(i7_signs.f k v.f0 2 2).bind fun t=>if t=true then(i7_Small.f v.f0).bind fun u=>if u.toList=v.f0.toList then(i7_value.f k v.f1).bind fun q=>i7_Check.j6 k (i:Int) (!q) l s r V K v.f0 v.f1 else i7_Check.j6 k (i:Int) true l s r V K v.f0 v.f1 else i7_Check.j6 k (i:Int) true l s r V K v.f0 v.f1) (fun k=>?_) (Ev.bind (rsigns_f v.f0 2 2 (by omega)) ?_)
  ·simp only [i7_Check.l1]
   rw [if_pos (by omega),if_pos (by omega),rdK_c hv]
  ·unfold kcP
   cases ha:sgns (L v.f0) 2 2 with
   |false=>simpa using bad
   | true=>
    simp only [if_true];rw [smallF v.f0 hz.1];simp only [Option.bind_some];by_cases hl:low v.f0=v.f0
    ·rw [if_pos hl]
     simp only [hl,if_true];refine Ev.bind (value_f v.f1 hz.2) ?_;cases hq:valP v.f1 with
     |true=>simpa using h6
     |false=>simpa using bad
    ·rw [if_neg hl]
     have:¬ (low v.f0).toList=v.f0.toList:=fun e=>hl (L_inj (by rw [toList_L,toList_L] at e;exact e))
     simp only [if_neg this];exact bad
theorem rk:Ev (fun k=>if (K.length:Int)>64 then some 5 else i7_Check.l1 k 0 l s r V K) (restK K):=by
 unfold restK;by_cases h:K.length>64
 ·rw [if_pos h];simp only [if_pos (show(K.length:Int)>64 by omega)];exact Ev.now _
 ·rw [if_neg h];simp only [if_neg (show ¬ (K.length:Int)>64 by omega)];exact rl1 z K none 0 (At.start K)
theorem rj0:Ev (fun k=>i7_Check.j0 k false l s r V K) (contP V K):=by
 unfold contP;refine Ev.step (f:=fun k=>if (V.length:Int)>64 then some 5 else i7_Check.l0 k 0 l s r V K) (fun k=>by simp only [i7_Check.j0];rw [if_neg (by simp)]) ?_
 by_cases h:V.length>64
 ·rw [if_pos h];simp only [if_pos (show(V.length:Int)>64 by omega)];exact Ev.now _
 ·rw [if_neg h];simp only [if_neg (show ¬ (V.length:Int)>64 by omega)];exact rl0 z (rk z) V none 0 (At.start V)
theorem rcheck_f:Ev (fun k=>i7_Check.f k l s r V K) (checkP l s r V K):=by
 have b0:Ev (fun k=>i7_Check.j0 k true l s r V K) 70:=Ev.step (f:=fun _=>some 70) (fun k=>by simp [i7_Check.j0]) (Ev.now _)
 have cR:Ev (fun k=>if r.toList=([]:List UInt8) then i7_Check.j0 k false l s r V K else(i7_region.f k r).bind fun t=>if t=true then(i7_great.f r).bind fun u=>i7_Check.j0 k (u.toList != r.toList) l s r V K else i7_Check.j0 k true l s r V K) (if regOk r=true then contP V K else 70):=by
  unfold regOk;rw [toList_L];by_cases h0:L r=[]
  ·rw [decide_eq_true h0];simp only [if_pos h0];exact rj0 z
  ·rw [decide_eq_false h0,Bool.false_or];simp only [if_neg h0]
   refine Ev.bind (rregion_f r (by have:=z.r;omega)) ?_
   cases hr:regn (L r) with
   |false=>simpa using b0
   | true=>
    simp only [if_true,Bool.true_and];rw [greatF r z.r];simp only [Option.bind_some,toList_L];by_cases hu:upp r=r
    ·rw [hu];simpa using rj0 z
    ·have:(L (upp r) != L r)=true:=by simp only [bne_iff_ne,ne_eq];exact fun e=>hu (L_inj e)
     rw [this];simpa [hu] using b0
 have cS:Ev (fun k=>if s.toList=([]:List UInt8) then(if r.toList=([]:List UInt8) then i7_Check.j0 k false l s r V K else(i7_region.f k r).bind fun t=>if t=true then(i7_great.f r).bind fun u=>i7_Check.j0 k (u.toList != r.toList) l s r V K else i7_Check.j0 k true l s r V K)
  else(i7_script.f k s).bind fun t=>if t=true then(i7_title.f s).bind fun u=>if u.toList=s.toList then(if r.toList=([]:List UInt8) then i7_Check.j0 k false l s r V K else(i7_region.f k r).bind fun t=>if t=true then(i7_great.f r).bind fun u=>i7_Check.j0 k (u.toList != r.toList) l s r V K else i7_Check.j0 k true l s r V K) else i7_Check.j0 k true l s r V K else i7_Check.j0 k true l s r V K) (if scrOk s=true then(if regOk r=true then contP V K else 70) else 70):=by
  unfold scrOk;by_cases h0:L s=[]
  ·have h0':s.toList=[]:=by rw [toList_L];exact h0
   rw [decide_eq_true h0];simp only [if_pos h0'];exact cR
  ·have h0':¬ s.toList=[]:=by rw [toList_L];exact h0
   rw [decide_eq_false h0,Bool.false_or];simp only [if_neg h0'];refine Ev.bind (script_f s (by have:=z.s;omega)) ?_
   cases hr:lets (L s) 4 4 with
   |false=>simpa using b0
   | true=>
    have hlen:¬ s.size=0:=by unfold lets at hr;simp only [Bool.and_eq_true,decide_eq_true_eq] at hr;rw [L_len] at hr;omega
    simp only [if_true,Bool.true_and];rw [rtitle_f s (by have:=z.s;omega),if_neg hlen]
    simp only [Option.bind_some];by_cases hu:titl s=s
    ·simp only [hu,if_true,decide_true];exact cR
    ·have:¬ (titl s).toList=s.toList:=by rw [toList_L,toList_L];exact fun e=>hu (L_inj e)
     simp only [if_neg this];simpa [hu] using b0
 unfold i7_Check.f checkP langOk;by_cases h0:L l=[]
 ·have h0':l.toList=[]:=by rw [toList_L];exact h0
  rw [decide_eq_true h0];simp only [if_pos h0'];exact cS
 ·have h0':¬ l.toList=[]:=by rw [toList_L];exact h0
  rw [decide_eq_false h0,Bool.false_or];simp only [if_neg h0'];refine Ev.bind (lang_f l (by have:=z.l;omega)) ?_
  cases hr:lets (L l) 2 3 with
  |false=>simpa using b0
  | true=>
   simp only [if_true,Bool.true_and];rw [smallF l z.l];simp only [Option.bind_some];by_cases hu:low l=l
   ·simp only [hu,if_true,decide_true,Bool.true_and]
    by_cases h3:L l=[117,110,100]
    ·have h3':l.toList=[117,110,100]:=by rw [toList_L];exact h3
     simp only [if_pos h3'];simpa [h3] using b0
    ·have h3':¬ l.toList=[117,110,100]:=by rw [toList_L];exact h3
     simp only [if_neg h3'];rw [decide_eq_true h3];exact cS
   ·have:¬ (low l).toList=l.toList:=by rw [toList_L,toList_L];exact fun e=>hu (L_inj e)
    simp only [if_neg this];simpa [hu] using b0
end
def joinT (v:List ByteArray):ByteArray:=S (Lib.join (v.map L) [45])
theorem joinT_lenB:∀ (v:List ByteArray),(∀ x ∈ v,x.size≤1048576)→(Lib.join (v.map L) [45]).length≤v.length*1048577
 |[],_=>by simp [Lib.join]
 |[a],h=>by
  have:=h a (by simp)
  simp [Lib.join];omega
 | a :: b :: r,h=>by
  have ih:=joinT_lenB (b :: r) (fun x hx=>h x (List.mem_cons_of_mem _ hx));have ha:=h a (by simp)
  have:Lib.join ((a :: b :: r).map L) [45]=L a++[45]++Lib.join ((b :: r).map L) [45]:=by
   simp [Lib.join,List.intercalate]
  rw [this,List.length_append,List.length_append,L_len];simp only [List.length_cons,List.length_nil] at ih ⊢;omega
def Bd (n:Nat) (ps:List ByteArray):Prop:=ps.length≤n∧∀ x ∈ ps,x.size≤1048576
theorem Bd.app {n:Nat} {ps:List ByteArray} (h:Bd n ps) {x:ByteArray} (hx:x.size≤1048576):Bd (n+1) (ps++[x]):=⟨by rw [List.length_append];have:=h.1;simp;omega,fun y hy=>by
 rcases List.mem_append.1 hy with h1|h1
 ·exact h.2 y h1
 ·obtain rfl:=List.mem_singleton.1 h1;exact hx⟩
theorem Bd.le {n m:Nat} {ps:List ByteArray} (h:Bd n ps) (hm:n≤m):Bd m ps:=⟨Nat.le_trans h.1 hm,h.2⟩
theorem joinT_size {n:Nat} {ps:List ByteArray} (h:Bd n ps) (hn:n≤1000):(joinT ps).size≤1048577000:=by
 unfold joinT;rw [S_size];have:=joinT_lenB ps h.2;have h1:ps.length*1048577≤1000*1048577:=Nat.mul_le_mul_right _ (Nat.le_trans h.1 hn);omega
theorem join_fB (v:List ByteArray) {n:Nat} (h:Bd n v) (hn:n≤1000):strings_Join.f v ⟨#[45]⟩=some (joinT v):=by
 have h0:=h.1;have:=joinT_lenB v h.2;have h1:v.length*1048577≤1000*1048577:=Nat.mul_le_mul_right _ (Nat.le_trans h.1 hn);unfold strings_Join.f;rw [if_pos (by omega)]
 have e2:(Lib.join (v.map (·.data.toList)) (⟨#[45]⟩:ByteArray).data.toList)=Lib.join (v.map L) [45]:=rfl
 rw [e2,if_pos (by omega)];rfl
theorem joinT_app {ps:List ByteArray} (h:ps≠[]) (x:ByteArray):joinT (ps++[x])=joinT ps++(⟨#[45]⟩:ByteArray)++x:=by
 apply L_inj;rw [L_app,L_app];unfold joinT;rw [LS,LS];cases ps with
 |nil=>exact absurd rfl h
 |cons a r=>
  rw [List.cons_append,List.map_cons,List.map_cons,Lib.join_cons,Lib.join_cons,List.map_append];simp [Lib.joinTail,L]
def UND:ByteArray:=⟨#[117,110,100]⟩
def UU:ByteArray:=⟨#[117]⟩
def nonE (x:ByteArray):List ByteArray:=if L x=[] then[] else[x]
def flatK:List Ke→List ByteArray
 |[]=>[]
 |x :: ks=>(x.f0 :: nonE x.f1)++flatK ks
def langT (l:ByteArray):ByteArray:=if L l=[] then UND else l
def uK (K:List Ke):List ByteArray:=if K.length>0 then[UU] else[]
def parts (l s r:ByteArray) (V:List ByteArray) (K:List Ke):List ByteArray:=([langT l]++nonE s++nonE r++V++uK K)++flatK K
theorem nonE_none {x:ByteArray} (h:L x=[]):nonE x=[]:=if_pos h
theorem nonE_some {x:ByteArray} (h:¬ L x=[]):nonE x=[x]:=if_neg h
theorem tt_l0 (K:List Ke) (hK:K.length≤64) (hz:∀ x ∈ K,x.f0.size≤1048576∧x.f1.size≤1048576):∀ (ys:List Ke) (i:Nat) (ps:List ByteArray),K.drop i=ys→i≤K.length→Bd (100+2*i) ps→
 Ev (fun k=>tag_text.l0 k ps K (K.length:Int) (i:Int)) (joinT (ps++flatK ys))
 |[],i,ps,h,hi,hb=>by
  have hi2:K.length≤i:=List.drop_eq_nil_iff.1 h;refine Ev.step (f:=fun _=>some (joinT ps)) (fun k=>?_) (by simpa [flatK] using Ev.now _)
  simp only [tag_text.l0];rw [if_neg (by omega),join_fB ps hb (by omega)];rfl
 | x :: ys,i,ps,h,hi,hb=>by
  obtain⟨hi2,hx,hn⟩:=drop_cons h;have hq:=hz x (List.mem_of_getElem? hx);have hw:wrap64 ((i:Int)+1)=((i+1:Nat):Int):=w64 (by omega)
  have b1:Bd (101+2*i) (ps++[x.f0]):=(hb.app hq.1).le (by omega)
  have l1:=hb.1;have l2:=b1.1;unfold flatK;by_cases h0:L x.f1=[]
  ·have h0':x.f1.toList=[]:=by rw [toList_L];exact h0
   have ih:=tt_l0 K hK hz ys (i+1) (ps++[x.f0]) hn (by omega) (b1.le (by omega))
   rw [nonE_none h0];rw [List.append_assoc] at ih;refine Ev.step (fun k=>?_) ih;simp only [tag_text.l0];rw [if_pos (by omega),if_pos (by omega),if_pos (by omega),if_pos (by omega),rdK_c hx]
   simp only [Option.bind_some];rw [if_pos h0',hw]
  ·have h0':¬ x.f1.toList=[]:=by rw [toList_L];exact h0
   have ih:=tt_l0 K hK hz ys (i+1) (ps++[x.f0]++[x.f1]) hn (by omega) ((b1.app hq.2).le (by omega))
   rw [nonE_some h0];have e:ps++[x.f0]++[x.f1]++flatK ys=ps++(x.f0 :: [x.f1]++flatK ys):=by simp
   rw [e] at ih;refine Ev.step (fun k=>?_) ih;simp only [tag_text.l0];rw [if_pos (by omega),if_pos (by omega),if_pos (by omega),if_pos (by omega),rdK_c hx]
   simp only [Option.bind_some];rw [if_neg h0',if_pos (by omega),hw]
theorem text_f {l s r:ByteArray} {V:List ByteArray} {K:List Ke} (z:Sz l s r V K) (hV:V.length≤64) (hK:K.length≤64):Ev (fun k=>tag_text.f k l s r V K) (joinT (parts l s r V K)):=by
 have t3:∀ ps,Bd 100 ps→Ev (fun k=>tag_text.j3 k ps l s r V K) (joinT (ps++flatK K)):=fun ps hb=>
  Ev.step (f:=fun k=>tag_text.l0 k ps K (K.length:Int) 0) (fun k=>by simp only [tag_text.j3]) (tt_l0 K hK z.vK K 0 ps rfl (by omega) hb)
 have t2:∀ ps,Bd 3 ps→Ev (fun k=>tag_text.j2 k ps l s r V K) (joinT ((ps++V++uK K)++flatK K)):=by
  intro ps hb;have hl:=hb.1;have b1:Bd 67 (ps++V):=⟨by rw [List.length_append];omega,fun x hx=>by
   rcases List.mem_append.1 hx with h1|h1
   ·exact hb.2 x h1
   ·exact z.vV x h1⟩
  have hl1:=b1.1;unfold uK;by_cases h0:K.length>0
  ·rw [if_pos h0]
   refine Ev.step (fun k=>?_) (t3 _ ((b1.app (x:=UU) (by decide)).le (by omega)))
   simp only [tag_text.j2];rw [if_pos (by omega)]
   simp only [Option.bind_some];rw [if_pos (by omega),if_pos (by omega)];rfl
  ·rw [if_neg h0,List.append_nil]
   refine Ev.step (fun k=>?_) (t3 _ (b1.le (by omega)))
   simp only [tag_text.j2];rw [if_pos (by omega)]
   simp only [Option.bind_some];rw [if_neg (by omega)]
 have t1:∀ ps,Bd 2 ps→Ev (fun k=>tag_text.j1 k ps l s r V K) (joinT ((ps++nonE r++V++uK K)++flatK K)):=by
  intro ps hb;have hl:=hb.1;by_cases h0:L r=[]
  ·have h0':r.toList=[]:=by rw [toList_L];exact h0
   rw [nonE_none h0,List.append_nil];refine Ev.step (fun k=>?_) (t2 ps (hb.le (by omega)))
   simp only [tag_text.j1];rw [if_pos h0']
  ·have h0':¬ r.toList=[]:=by rw [toList_L];exact h0
   rw [nonE_some h0];refine Ev.step (fun k=>?_) (t2 _ (hb.app z.r));simp only [tag_text.j1];rw [if_neg h0',if_pos (by omega)]
 have t0:∀ ps,Bd 1 ps→Ev (fun k=>tag_text.j0 k ps l s r V K) (joinT ((ps++nonE s++nonE r++V++uK K)++flatK K)):=by
  intro ps hb;have hl:=hb.1;by_cases h0:L s=[]
  ·have h0':s.toList=[]:=by rw [toList_L];exact h0
   rw [nonE_none h0,List.append_nil];refine Ev.step (fun k=>?_) (t1 ps (hb.le (by omega)))
   simp only [tag_text.j0];rw [if_pos h0']
  ·have h0':¬ s.toList=[]:=by rw [toList_L];exact h0
   rw [nonE_some h0];refine Ev.step (fun k=>?_) (t1 _ (hb.app z.s));simp only [tag_text.j0];rw [if_neg h0',if_pos (by omega)]
 have b0:∀ x:ByteArray,x.size≤1048576→Bd 1 [x]:=fun x hx=>⟨by simp,fun y hy=>by obtain rfl:=List.mem_singleton.1 hy;exact hx⟩
 unfold tag_text.f parts langT;simp only [Option.bind_some];by_cases h0:L l=[]
 ·have h0':l.toList=[]:=by rw [toList_L];exact h0
  rw [if_pos h0];simp only [if_pos h0',if_pos (show(0:Int)<(([l]:List ByteArray).length:Int) by simp)]
  exact t0 [UND] (b0 UND (by decide))
 ·have h0':¬ l.toList=[]:=by rw [toList_L];exact h0
  rw [if_neg h0];simp only [if_neg h0'];exact t0 [l] (b0 l z.l)
theorem app_ne {ps:List ByteArray} {x:ByteArray}:ps++[x]≠[]:=by simp
theorem sz_app (a b:ByteArray):(a++b).size=a.size+b.size:=by simp
theorem du (a:ByteArray):a++(⟨#[45,117]⟩:ByteArray)=a++(⟨#[45]⟩:ByteArray)++UU:=by
 apply L_inj;rw [L_app,L_app,L_app];simp [L,UU]
section
variable {l s r:ByteArray} {V:List ByteArray} {K:List Ke} (z:Sz l s r V K) (hK:K.length≤64)
include z hK
theorem rt_l1:∀ (ys:List Ke) (i:Nat) (ps:List ByteArray),K.drop i=ys→i≤K.length→Bd (100+3*i) ps→ps≠[]→(i=0→ys=K)→
 Ev (fun k=>i7_text.l1 k (joinT ps) (i:Int) l s r V K) (joinT ((if i=0 then ps++uK K else ps)++flatK ys))
 | [],i,ps,h,hi,hb,hne,h00=>by
  have hi2:K.length≤i:=List.drop_eq_nil_iff.1 h;have e:(if i=0 then ps++uK K else ps)=ps:=by
   split
   ·rename_i h1
    have:K=[]:=(h00 h1).symm;subst this;simp [uK]
   ·rfl
  rw [e];refine Ev.step (f:=fun _=>some (joinT ps)) (fun k=>?_) (by simpa [flatK] using Ev.now _)
  simp only [i7_text.l1];rw [if_neg (by omega)]
 | x :: ys,i,ps,h,hi,hb,hne,h00=>by
  obtain⟨hi2,hx,hn⟩:=drop_cons h;have hq:=z.vK x (List.mem_of_getElem? hx);have hw:wrap64 ((i:Int)+1)=((i+1:Nat):Int):=w64 (by omega)
  have j5:∀ qs,Bd (101+3*i) qs→qs≠[]→Ev (fun k=>i7_text.j5 k (joinT qs) (i:Int) l s r V K) (joinT (qs++flatK (x :: ys))):=by
   intro qs hqs hqn;have hs0:=joinT_size hqs (by omega)
   have e1:=joinT_app hqn x.f0;have b1:Bd (102+3*i) (qs++[x.f0]):=(hqs.app hq.1).le (by omega)
   have hs1:=joinT_size b1 (by omega)
   have hp1:(joinT qs++(⟨#[45]⟩:ByteArray)).size=(joinT qs).size+1:=sz_app _ _;unfold flatK;by_cases h0:L x.f1=[]
   ·have h0':x.f1.toList=[]:=by rw [toList_L];exact h0
    have ih:=rt_l1 ys (i+1) (qs++[x.f0]) hn (by omega) (b1.le (by omega)) app_ne (fun h=>by omega)
    rw [if_neg (by omega)] at ih
    rw [nonE_none h0];rw [List.append_assoc] at ih;refine Ev.step (fun k=>?_) ih;simp only [i7_text.j5];rw [if_pos (by omega),if_pos (by omega),if_pos (by omega),rdK_c hx,if_pos (by omega),if_pos h0',hw,e1]
   ·have h0':¬ x.f1.toList=[]:=by rw [toList_L];exact h0
    have e2:=joinT_app (ps:=qs++[x.f0]) app_ne x.f1;have hp2:(joinT (qs++[x.f0])++(⟨#[45]⟩:ByteArray)).size=(joinT (qs++[x.f0])).size+1:=sz_app _ _;have ih:=rt_l1 ys (i+1) (qs++[x.f0]++[x.f1]) hn (by omega) ((b1.app hq.2).le (by omega)) app_ne (fun h=>by omega)
    rw [if_neg (by omega)] at ih
    rw [nonE_some h0];have e:qs++[x.f0]++[x.f1]++flatK ys=qs++(x.f0 :: [x.f1]++flatK ys):=by simp
    rw [e] at ih;refine Ev.step (fun k=>?_) ih;simp only [i7_text.j5];rw [if_pos (by omega),if_pos (by omega),if_pos (by omega),rdK_c hx,if_pos (by omega),if_neg h0',if_pos (by rw [← e1];omega),if_pos (by rw [← e1];omega),← e1,← e2,hw]
  have hs:=joinT_size hb (by omega)
  by_cases hi0:i=0
  ·have hu:uK K=[UU]:=if_pos (by omega)
   rw [if_pos hi0,hu];refine Ev.step (fun k=>?_) (j5 (ps++[UU]) ((hb.app (x:=UU) (by decide)).le (by omega)) app_ne)
   simp only [i7_text.l1];rw [if_pos (by omega),if_pos (by omega),if_pos (by omega),du,← joinT_app hne]
  ·rw [if_neg hi0]
   refine Ev.step (fun k=>?_) (j5 ps (hb.le (by omega)) hne)
   simp only [i7_text.l1];rw [if_pos (by omega),if_neg (by omega)]
variable (hV:V.length≤64)
include hV
theorem rt_l0:∀ (ys:List ByteArray) (i:Nat) (ps:List ByteArray),V.drop i=ys→i≤V.length→Bd (3+i) ps→ps≠[]→
 Ev (fun k=>i7_text.l0 k (joinT ps) (i:Int) l s r V K) (joinT ((ps++ys++uK K)++flatK K))
 |[],i,ps,h,hi,hb,hne=>by
  have hi2:V.length≤i:=List.drop_eq_nil_iff.1 h;rw [List.append_nil];have:=rt_l1 z hK K 0 ps rfl (by omega) (hb.le (by omega)) hne (fun _=>rfl)
  rw [if_pos rfl] at this;refine Ev.step (fun k=>?_) this;simp only [i7_text.l0];rw [if_neg (by omega)];rfl
 |x :: ys,i,ps,h,hi,hb,hne=>by
  obtain⟨hi2,hx,hn⟩:=drop_cons h;have hq:=z.vV x (List.mem_of_getElem? hx);have hw:wrap64 ((i:Int)+1)=((i+1:Nat):Int):=w64 (by omega)
  have ih:=rt_l0 ys (i+1) (ps++[x]) hn (by omega) ((hb.app hq).le (by omega)) app_ne
  have e:ps++[x]++ys++uK K=ps++(x :: ys)++uK K:=by simp
  rw [e] at ih;have hs:=joinT_size hb (by omega)
  have hp1:(joinT ps++(⟨#[45]⟩:ByteArray)).size=(joinT ps).size+1:=sz_app _ _;refine Ev.step (fun k=>?_) ih;simp only [i7_text.l0];rw [if_pos (by omega),if_pos (by omega),if_pos (by omega),rdOf_c hx,if_pos (by omega),hw,joinT_app hne]
theorem rtext_f:Ev (fun k=>i7_text.f k l s r V K) (joinT (parts l s r V K)):=by
 have t2:∀ ps,Bd 3 ps→ps≠[]→Ev (fun k=>i7_text.j2 k (joinT ps) l s r V K) (joinT ((ps++V++uK K)++flatK K)):=fun ps hb hne=>
  Ev.step (fun k=>by simp only [i7_text.j2];rfl) (rt_l0 z hK hV V 0 ps rfl (by omega) hb hne)
 have t1:∀ ps,Bd 2 ps→ps≠[]→Ev (fun k=>i7_text.j1 k (joinT ps) l s r V K) (joinT ((ps++nonE r++V++uK K)++flatK K)):=by
  intro ps hb hne;have hs:=joinT_size hb (by omega)
  have hp1:(joinT ps++(⟨#[45]⟩:ByteArray)).size=(joinT ps).size+1:=sz_app _ _;have hr:=z.r;by_cases h0:L r=[]
  ·have h0':r.toList=[]:=by rw [toList_L];exact h0
   rw [nonE_none h0,List.append_nil];refine Ev.step (fun k=>?_) (t2 ps (hb.le (by omega)) hne)
   simp only [i7_text.j1];rw [if_pos h0']
  ·have h0':¬ r.toList=[]:=by rw [toList_L];exact h0
   rw [nonE_some h0];refine Ev.step (fun k=>?_) (t2 _ (hb.app z.r) app_ne);simp only [i7_text.j1];rw [if_neg h0',if_pos (by omega),if_pos (by omega),joinT_app hne]
 have t0:∀ ps,Bd 1 ps→ps≠[]→Ev (fun k=>i7_text.j0 k (joinT ps) l s r V K) (joinT ((ps++nonE s++nonE r++V++uK K)++flatK K)):=by
  intro ps hb hne;have hs:=joinT_size hb (by omega)
  have hp1:(joinT ps++(⟨#[45]⟩:ByteArray)).size=(joinT ps).size+1:=sz_app _ _;have hr:=z.s;by_cases h0:L s=[]
  ·have h0':s.toList=[]:=by rw [toList_L];exact h0
   rw [nonE_none h0,List.append_nil];refine Ev.step (fun k=>?_) (t1 ps (hb.le (by omega)) hne)
   simp only [i7_text.j0];rw [if_pos h0']
  ·have h0':¬ s.toList=[]:=by rw [toList_L];exact h0
   rw [nonE_some h0];refine Ev.step (fun k=>?_) (t1 _ (hb.app z.s) app_ne);simp only [i7_text.j0];rw [if_neg h0',if_pos (by omega),if_pos (by omega),joinT_app hne]
 have b0:∀ x:ByteArray,x.size≤1048576→Bd 1 [x]:=fun x hx=>⟨by simp,fun y hy=>by obtain rfl:=List.mem_singleton.1 hy;exact hx⟩
 have one:∀ x:ByteArray,joinT [x]=x:=fun x=>by
  apply L_inj;unfold joinT;rw [LS];simp [Lib.join]
 unfold i7_text.f parts langT;by_cases h0:L l=[]
 ·have h0':l.toList=[]:=by rw [toList_L];exact h0
  rw [if_pos h0];simp only [if_pos h0'];have:=t0 [UND] (b0 UND (by decide)) (by simp)
  rw [one] at this;exact this
 ·have h0':¬ l.toList=[]:=by rw [toList_L];exact h0
  rw [if_neg h0];simp only [if_neg h0'];have:=t0 [l] (b0 l z.l) (by simp)
  rw [one] at this;exact this
end
instance decKe:DecidableEq Ke:=fun a b=>if h:a.f0=b.f0∧a.f1=b.f1 then isTrue (by cases a;cases b;simp only at h;rw [h.1,h.2]) else isFalse (fun e=>h (by rw [e];exact⟨rfl,rfl⟩))
theorem eq_iffL (a b:ByteArray):(a.toList=b.toList)↔a=b:=⟨fun h=>L_inj (by rw [← toList_L,← toList_L,h]),fun h=>by rw [h]⟩
theorem drop_getD {α:Type} {V:List α} {i:Nat} (h:i<V.length):∃ x,V[i]?=some x∧V.drop i=x :: V.drop (i+1):=⟨V[i],List.getElem?_eq_getElem h,List.drop_eq_getElem_cons h⟩
theorem dec_and {p q:Prop} [Decidable p] [Decidable q] (h:p):decide (p∧q)=decide q:=by simp [h]
theorem dec_no {p:Prop} [Decidable p] (h:¬ p):decide p=false:=decide_eq_false h
section
variable (l s r:ByteArray) (V:List ByteArray) (K:List Ke) (l' s' r':ByteArray) (V':List ByteArray) (K':List Ke) (hV:V.length≤1048576) (hK:K.length≤1048576)
include hK
theorem same_l1g (hl:K.length=K'.length):∀ (d i:Nat),K.length - i=d→i≤K.length→Ev (fun k=>i7_Same.l1 k (i:Int) l s r V K l' s' r' V' K') (decide (K.drop i=K'.drop i)):=by
 intro d;induction d with
 |zero=>
  intro i hd hi;rw [List.drop_eq_nil_of_le (by omega),List.drop_eq_nil_of_le (by omega)]
  refine Ev.step (f:=fun _=>some true) (fun k=>?_) (Ev.now _);simp only [i7_Same.l1];rw [if_neg (by omega)]
 | succ d ih=>
  intro i hd hi;obtain⟨x,hx,ex⟩:=drop_getD (V:=K) (i:=i) (by omega)
  obtain⟨y,hy,ey⟩:=drop_getD (V:=K') (i:=i) (by omega)
  have hw:wrap64 ((i:Int)+1)=((i+1:Nat):Int):=w64 (by omega)
  have i2:=ih (i+1) (by omega) (by omega)
  rw [ex,ey];refine Ev.step (f:=fun k=>if (!((x.f0.toList)==(y.f0.toList))||(!((x.f1.toList)==(y.f1.toList))))=true then some false else i7_Same.l1 k ((i+1:Nat):Int) l s r V K l' s' r' V' K') (fun k=>?_) ?_
  ·simp only [i7_Same.l1]
   rw [if_pos (by omega),if_pos (by omega),if_pos (by omega),rdK_c hx,rdK_c hy,hw]
  ·by_cases h0:x.f0=y.f0
   ·by_cases h1:x.f1=y.f1
    ·have e:x=y:=by cases x;cases y;simp only at h0 h1;rw [h0,h1]
     rw [e];have e2:(!((y.f0.toList)==(y.f0.toList))||(!((y.f1.toList)==(y.f1.toList))))=false:=by simp
     simp only [e2];have e3:decide (y :: K.drop (i+1)=y :: K'.drop (i+1))=decide (K.drop (i+1)=K'.drop (i+1)):=by simp
     rw [e3];exact i2
    ·have e1:(x.f1.toList==y.f1.toList)=false:=beq_eq_false_iff_ne.mpr (fun e=>h1 ((eq_iffL _ _).1 e))
     simp only [e1];rw [dec_no (fun e=>h1 (by rw [(List.cons.inj e).1]))]
     refine Ev.congr (f:=fun _=>some false) (fun k=>?_) (Ev.now _);simp
   ·have e1:(x.f0.toList==y.f0.toList)=false:=beq_eq_false_iff_ne.mpr (fun e=>h0 ((eq_iffL _ _).1 e))
    simp only [e1];rw [dec_no (fun e=>h0 (by rw [(List.cons.inj e).1]))]
    exact Ev.now _
include hV
theorem same_l0g (hl:K.length=K'.length) (hv:V.length=V'.length):∀ (d i:Nat),V.length - i=d→i≤V.length→Ev (fun k=>i7_Same.l0 k (i:Int) l s r V K l' s' r' V' K') (decide (V.drop i=V'.drop i∧K=K')):=by
 intro d;induction d with
 |zero=>
  intro i hd hi;rw [List.drop_eq_nil_of_le (by omega),List.drop_eq_nil_of_le (by omega),dec_and rfl]
  refine Ev.step (fun k=>?_) (same_l1g l s r V K l' s' r' V' K' hK hl K.length 0 (by omega) (by omega))
  simp only [i7_Same.l0];rw [if_neg (by omega)];rfl
 | succ d ih=>
  intro i hd hi;obtain⟨x,hx,ex⟩:=drop_getD (V:=V) (i:=i) (by omega)
  obtain⟨y,hy,ey⟩:=drop_getD (V:=V') (i:=i) (by omega)
  have hw:wrap64 ((i:Int)+1)=((i+1:Nat):Int):=w64 (by omega)
  have i2:=ih (i+1) (by omega) (by omega)
  rw [ex,ey];refine Ev.step (f:=fun k=>if x.toList=y.toList then i7_Same.l0 k ((i+1:Nat):Int) l s r V K l' s' r' V' K' else some false) (fun k=>?_) ?_
  ·simp only [i7_Same.l0]
   rw [if_pos (by omega),if_pos (by omega),if_pos (by omega),rdOf_c hx,rdOf_c hy,hw]
  ·by_cases h0:x=y
   ·subst h0
    simp only [if_true];have e3:decide (x :: V.drop (i+1)=x :: V'.drop (i+1)∧K=K')=decide (V.drop (i+1)=V'.drop (i+1)∧K=K'):=by simp
    rw [e3];exact i2
   ·have e1:¬ x.toList=y.toList:=fun e=>h0 ((eq_iffL _ _).1 e)
    simp only [if_neg e1];rw [dec_no (fun e=>h0 (List.cons.inj e.1).1)];exact Ev.now _
theorem same_g:Ev (fun k=>i7_Same.f k l s r V K l' s' r' V' K') (decide (l=l'∧s=s'∧r=r'∧V=V'∧K=K')):=by
 have bad:Ev (fun k=>i7_Same.j0 k true l s r V K l' s' r' V' K') false:=Ev.step (f:=fun _=>some false) (fun k=>by simp [i7_Same.j0]) (Ev.now _)
 unfold i7_Same.f;simp only [eq_iffL];by_cases h1:l=l'
 ·simp only [if_pos h1]
  by_cases h2:s=s'
  ·simp only [if_pos h2]
   by_cases h3:r=r'
   ·simp only [if_pos h3]
    rw [dec_and h1,dec_and h2,dec_and h3];by_cases h4:V.length=V'.length
    ·simp only [if_pos (show(V.length:Int)=(V'.length:Int) by omega)]
     by_cases h5:K.length=K'.length
     ·have e:((K.length:Int) != (K'.length:Int))=false:=by simp;omega
      rw [e];refine Ev.step (fun k=>?_) (same_l0g l s r V K l' s' r' V' K' hV hK h5 h4 V.length 0 (by omega) (by omega))
      simp only [i7_Same.j0];rw [if_neg (by simp)];rfl
     ·have e:((K.length:Int) != (K'.length:Int))=true:=by simp;omega
      rw [e,dec_no (fun h=>h5 (by rw [h.2]))];exact bad
    ·simp only [if_neg (show ¬ (V.length:Int)=(V'.length:Int) by omega)]
     rw [dec_no (fun h=>h4 (by rw [h.1]))];exact bad
   ·simp only [if_neg h3];rw [dec_no (fun h=>h3 h.2.2.1)];exact bad
  ·simp only [if_neg h2];rw [dec_no (fun h=>h2 h.2.1)];exact bad
 ·simp only [if_neg h1];rw [dec_no (fun h=>h1 h.1)];exact bad
end
section
variable {l s r:ByteArray} {V:List ByteArray} {K:List Ke} (z:Sz l s r V K) {l' s' r':ByteArray} {V':List ByteArray} {K':List Ke} (z':Sz l' s' r' V' K')
include z z'
end
abbrev Tg:=ByteArray×ByteArray×ByteArray×List ByteArray×List Ke
abbrev Z0:ByteArray:=⟨#[]⟩
def chkT (t:Tg):Int:=checkP t.1 t.2.1 t.2.2.1 t.2.2.2.1 t.2.2.2.2
def prtT (t:Tg):List ByteArray:=parts t.1 t.2.1 t.2.2.1 t.2.2.2.1 t.2.2.2.2
def txtT (t:Tg):ByteArray:=joinT (prtT t)
def rootT:Tg:=(Z0,Z0,Z0,[],[])
def nextT (t:Tg):Tg:=if 0<t.2.2.2.2.length then(t.1,t.2.1,t.2.2.1,t.2.2.2.1,[]) else if 0<t.2.2.2.1.length then(t.1,t.2.1,t.2.2.1,t.2.2.2.1.take (t.2.2.2.1.length - 1),t.2.2.2.2)
 else if L t.2.2.1=[] then(if L t.2.1=[] then(Z0,t.2.1,t.2.2.1,t.2.2.2.1,t.2.2.2.2) else(t.1,Z0,t.2.2.1,t.2.2.2.1,t.2.2.2.2)) else(t.1,t.2.1,Z0,t.2.2.2.1,t.2.2.2.2)
theorem chk_iff (l s r:ByteArray) (V:List ByteArray) (K:List Ke):checkP l s r V K=0↔langOk l=true∧scrOk s=true∧regOk r=true∧V.length≤64∧vcP none V=0∧K.length≤64∧kcP none K=0:=by
 unfold checkP contP restK;constructor
 ·intro h
  by_cases h1:langOk l=true
  ·rw [if_pos h1] at h
   by_cases h2:scrOk s=true
   ·rw [if_pos h2] at h
    by_cases h3:regOk r=true
    ·rw [if_pos h3] at h
     by_cases h4:V.length>64
     ·rw [if_pos h4] at h;exact absurd h (by decide)
     ·rw [if_neg h4] at h
      by_cases h5:vcP none V=0
      ·rw [if_pos h5] at h
       by_cases h6:K.length>64
       ·rw [if_pos h6] at h;exact absurd h (by decide)
       ·rw [if_neg h6] at h
        exact⟨h1,h2,h3,by omega,h5,by omega,h⟩
      ·rw [if_neg h5] at h;exact absurd h h5
    ·rw [if_neg h3] at h;exact absurd h (by decide)
   ·rw [if_neg h2] at h;exact absurd h (by decide)
  ·rw [if_neg h1] at h;exact absurd h (by decide)
 ·rintro ⟨h1,h2,h3,h4,h5,h6,h7⟩
  rw [if_pos h1,if_pos h2,if_pos h3,if_neg (by omega),if_pos h5,if_neg (by omega),h7]
theorem vc_take:∀ (V:List ByteArray) (pr:Option ByteArray) (n:Nat),vcP pr V=0→vcP pr (V.take n)=0
 |[],_,n,_=>by rw [List.take_nil];rfl
 |v :: vs,_,0,_=>rfl
 | v :: vs,pr,n+1,h=>by
  rw [List.take_succ_cons];unfold vcP at h ⊢;by_cases h1:vart (L v)=true
  ·rw [if_pos h1] at h ⊢
   by_cases h2:low v=v
   ·rw [if_pos h2] at h ⊢
    by_cases h3:rise pr v=0
    ·rw [if_pos h3] at h ⊢;exact vc_take vs (some v) n h
    ·rw [if_neg h3] at h;exact absurd h h3
   ·rw [if_neg h2] at h;exact absurd h (by decide)
  ·rw [if_neg h1] at h;exact absurd h (by decide)
theorem langOk_nil:langOk Z0=true:=rfl
theorem scrOk_nil:scrOk Z0=true:=rfl
theorem regOk_nil:regOk Z0=true:=rfl
theorem chk_next {t:Tg} (h:chkT t=0):chkT (nextT t)=0:=by
 obtain⟨l,s,r,V,K⟩:=t;obtain⟨h1,h2,h3,h4,h5,h6,h7⟩:=(chk_iff l s r V K).1 h;unfold nextT;split
 ·exact (chk_iff _ _ _ _ _).2 ⟨h1,h2,h3,h4,h5,by simp,rfl⟩
 ·split
  ·exact (chk_iff _ _ _ _ _).2 ⟨h1,h2,h3,by simp only [List.length_take] at *;omega,vc_take _ _ _ h5,h6,h7⟩
  ·split
   ·split
    ·exact (chk_iff _ _ _ _ _).2 ⟨langOk_nil,h2,h3,h4,h5,h6,h7⟩
    ·exact (chk_iff _ _ _ _ _).2 ⟨h1,scrOk_nil,h3,h4,h5,h6,h7⟩
   ·exact (chk_iff _ _ _ _ _).2 ⟨h1,h2,regOk_nil,h4,h5,h6,h7⟩
theorem txt_root:txtT rootT=UND:=rfl
def neT (x:ByteArray):Nat:=if L x=[] then 0 else 1
theorem neT_0 {x:ByteArray} (h:L x=[]):neT x=0:=if_pos h
theorem neT_1 {x:ByteArray} (h:¬ L x=[]):neT x=1:=if_neg h
theorem neT_z:neT Z0=0:=rfl
theorem neT_le (x:ByteArray):neT x≤1:=by unfold neT;split <;> omega
def farT (t:Tg):Nat:=t.2.2.2.2.length+t.2.2.2.1.length+neT t.2.2.1+neT t.2.1+neT t.1
theorem far_next {t:Tg} (hr:t≠rootT):farT (nextT t)<farT t:=by
 obtain⟨l,s,r,V,K⟩:=t;have hz:=neT_z;unfold nextT farT;simp only;split
 ·simp only [List.length_nil];omega
 ·split
  ·simp only [List.length_take];omega
  ·rename_i h1 h2
   split
   ·rename_i h3
    split
    ·rename_i h4
     have e3:=neT_0 h3;have e4:=neT_0 h4;by_cases h5:L l=[]
     ·exfalso
      apply hr;rw [List.length_eq_zero_iff.1 (show K.length=0 by omega),List.length_eq_zero_iff.1 (show V.length=0 by omega),L_inj (b:=Z0) h3,L_inj (b:=Z0) h4,L_inj (b:=Z0) h5];rfl
     ·have e5:=neT_1 h5
      simp only;omega
    ·rename_i h4
     have e4:=neT_1 h4;simp only;omega
   ·rename_i h3
    have e3:=neT_1 h3;simp only;omega
def toS (t:Tg):S25:=⟨t.1,t.2.1,t.2.2.1,t.2.2.2.1,t.2.2.2.2⟩
abbrev SzT (t:Tg):Prop:=Sz t.1 t.2.1 t.2.2.1 t.2.2.2.1 t.2.2.2.2
theorem few_of {t:Tg} (h:chkT t=0):t.2.2.2.1.length≤64∧t.2.2.2.2.length≤64:=by
 obtain⟨l,s,r,V,K⟩:=t;obtain⟨_,_,_,h4,_,h6,_⟩:=(chk_iff l s r V K).1 h;exact⟨h4,h6⟩
theorem sz_next {t:Tg} (z:SzT t):SzT (nextT t):=by
 obtain⟨l,s,r,V,K⟩:=t;have z0:Z0.size≤1048576:=by decide
 unfold nextT;simp only;split
 ·exact ⟨z.l,z.s,z.r,z.nV,by simp,z.vV,fun _ h=>by cases h⟩
 ·split
  ·exact ⟨z.l,z.s,z.r,by have:=z.nV;simp only [List.length_take] at *;omega,z.nK,fun v hv=>z.vV v (List.mem_of_mem_take hv),z.vK⟩
  ·split
   ·split
    ·exact ⟨z0,z.s,z.r,z.nV,z.nK,z.vV,z.vK⟩
    ·exact ⟨z.l,z0,z.r,z.nV,z.nK,z.vV,z.vK⟩
   ·exact ⟨z.l,z.s,z0,z.nV,z.nK,z.vV,z.vK⟩
theorem textT_f {t:Tg} (z:SzT t) (h:chkT t=0):Ev (fun k=>tag_text.f k t.1 t.2.1 t.2.2.1 t.2.2.2.1 t.2.2.2.2) (txtT t):=text_f z (few_of h).1 (few_of h).2
theorem parts_len (t:Tg) (h:t.2.2.2.1.length≤64) (h2:t.2.2.2.2.length≤64) (z:SzT t):(txtT t).size≤1048577000:=by
 obtain⟨l,s,r,V,K⟩:=t;have e1:(nonE s).length≤1:=by unfold nonE;split <;> simp
 have e2:(nonE r).length≤1:=by unfold nonE;split <;> simp
 have e3:(uK K).length≤1:=by unfold uK;split <;> simp
 have fl:∀ (M:List Ke),(flatK M).length≤2*M.length:=by
  intro M;induction M with
  |nil=>simp [flatK]
  |cons x M ih=>
   have e4:(nonE x.f1).length≤1:=by unfold nonE;split <;> simp
   unfold flatK;simp only [List.length_append,List.length_cons];omega
 have m1:∀ x:ByteArray,x.size≤1048576→∀ y ∈ nonE x,y.size≤1048576:=fun x hx y hy=>by
  unfold nonE at hy;split at hy
  ·cases hy
  ·obtain rfl:=List.mem_singleton.1 hy;exact hx
 have m2:∀ (M:List Ke),(∀ x ∈ M,x.f0.size≤1048576∧x.f1.size≤1048576)→∀ y ∈ flatK M,y.size≤1048576:=by
  intro M;induction M with
  |nil=>intro _ y hy;cases hy
  | cons x M ih=>
   intro hM y hy;have hx:=hM x (List.mem_cons_self ..);unfold flatK at hy;rcases List.mem_append.1 hy with hy|hy
   ·rcases List.mem_cons.1 hy with rfl|hy
    ·exact hx.1
    ·exact m1 _ hx.2 y hy
   ·exact ih (fun z hz=>hM z (List.mem_cons_of_mem _ hz)) y hy
 refine joinT_size (n:=1000) ⟨?_,?_⟩ (Nat.le_refl _)
 ·have:=fl K
  unfold prtT parts;simp only [List.length_append,List.length_cons,List.length_nil] at *;omega
 ·intro y hy
  unfold prtT parts at hy;simp only [List.mem_append] at hy;rcases hy with ((((hy|hy)|hy)|hy)|hy)|hy
  ·obtain rfl:=List.mem_singleton.1 hy
   unfold langT;split
   ·decide
   ·exact z.l
  ·exact m1 _ z.s y hy
  ·exact m1 _ z.r y hy
  ·exact z.vV y hy
  ·unfold uK at hy
   split at hy
   ·obtain rfl:=List.mem_singleton.1 hy;decide
   ·cases hy
  ·exact m2 K z.vK y hy
theorem txt_small {t:Tg} (z:SzT t) (h:chkT t=0):(txtT t).size≤9223372036854775807:=by
 have:=parts_len t (few_of h).1 (few_of h).2 z;omega
theorem copied_f {t:Tg} (h:chkT t=0):tag_copied.f t.1 t.2.1 t.2.2.1 t.2.2.2.1 t.2.2.2.2=some t:=by
 have h1:=few_of h;unfold tag_copied.f slices_Clone_string_string.f api_Key_86.f
 first
  |rfl
  |(rw [if_pos (by omega),if_pos (by omega)];rfl)
theorem und_iff (x:ByteArray):(x.toList=([117,110,100]:List UInt8))↔x=UND:=by
 rw [toList_L];exact⟨fun h=>L_inj h,fun h=>by rw [h];rfl⟩
theorem far_few {t:Tg} (h:chkT t=0):farT t≤131:=by
 have:=few_of h;unfold farT;have e1:=neT_le t.2.2.1;have e2:=neT_le t.2.1;have e3:=neT_le t.1;omega
end Go.Proofs.YtphjhbppjakocaaGreatDoor.Pl
