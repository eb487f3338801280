/- Printed by a program (the kit's print.py with changes of this session) out of Lean's own print of the program: functions of the program as plain Lean functions, and that each call comes to what they say; conditions: those that each theorem states. Not trusted: Lean checks it. -/
import Derived.Test.YtphjhbppjakocaaGreatDoorWInv
import Derived.Test.YtphjhbppjakocaaGreatDoorPl1
import Derived.Test.YtphjhbppjakocaaGreatDoorWN
import Derived.Test.YtphjhbppjakocaaGreatDoorRPut
import Derived.Test.YtphjhbppjakocaaGreatDoorQCopied
set_option linter.unusedVariables false
set_option linter.unusedSimpArgs false
namespace Go.Proofs.YtphjhbppjakocaaGreatDoor.PTag
open Go.RowKit Go.Proofs.YtphjhbppjakocaaGreatDoorW.PrintWords Go.Proofs.YtphjhbppjakocaaGreatDoorW.PrintLast Go.Proofs.YtphjhbppjakocaaGreatDoorW.PrintMore
attribute [local go_sem] max2_int min2_int max_two min_two max_three min_three max_four min_four
attribute [local go_sem] setCell_drewN_ cell_put_twice_ gtr_less_
mutual
def i7_keys.l0:Nat→List ByteArray→List Int→Int→ByteArray→ByteArray→ByteArray→List ByteArray→List (S39)→Option (ByteArray×ByteArray×ByteArray×List ByteArray×(List (S39))×Int×Int)
 |0,_,_,_,_,_,_,_,_=>none
 |k+1,x1,x2,x3,aN,aO,aP,aQ,aR=>if x3<(x1.length:Int) then(if 0≤x3 then((i7_signs.f k (rdOf ByteArray.empty x1 x3) 2 2).bind fun cD=>(if cD=true then((i7_Small.f (rdOf ByteArray.empty x1 x3)).bind fun aX=>(if x3<(x2.length:Int) then(i7_keys.l1 k x1 x2 (wrap64 (x3+1)) aX (rd x2 x3) (⟨#[]⟩:ByteArray) aN aO aP aQ aR) else(none))) else(if x3<(x2.length:Int) then(some (aN,aO,aP,aQ,aR,rd x2 x3,70)) else(none)))) else(none)) else(some (aN,aO,aP,aQ,aR,0,0))
def i7_keys.l1:Nat→List ByteArray→List Int→Int→ByteArray→Int→ByteArray→ByteArray→ByteArray→ByteArray→List ByteArray→List (S39)→Option (ByteArray×ByteArray×ByteArray×List ByteArray×(List (S39))×Int×Int)
 |0,_,_,_,_,_,_,_,_,_,_,_=>none
 |k+1,x1,x2,x3,x13,x14,x15,aN,aO,aP,aQ,aR=>if x3<(x1.length:Int) then(if 0≤x3 then((i7_signs.f k (rdOf ByteArray.empty x1 x3) 3 8).bind fun bV=>(i7_keys.j2 k x1 x2 x3 x13 x14 x15 bV aN aO aP aQ aR)) else(none)) else(i7_keys.j2 k x1 x2 x3 x13 x14 x15 false aN aO aP aQ aR)
def i7_keys.j2:Nat→List ByteArray→List Int→Int→ByteArray→Int→ByteArray→Bool→ByteArray→ByteArray→ByteArray→List ByteArray→List (S39)→Option (ByteArray×ByteArray×ByteArray×List ByteArray×(List (S39))×Int×Int)
 |0,_,_,_,_,_,_,_,_,_,_,_,_=>none
 |k+1,x1,x2,x3,x13,x14,x15,x60,aN,aO,aP,aQ,aR=>if x60=true then(if x15.toList=([]:List UInt8) then(i7_keys.j3 k x1 x2 x3 x13 x14 x15 aN aO aP aQ aR) else(if x15.size+1≤9223372036854775807 then(i7_keys.j3 k x1 x2 x3 x13 x14 (x15++(⟨#[45]⟩:ByteArray)) aN aO aP aQ aR) else(none))) else(if x15.toList=([116,114,117,101]:List UInt8) then(i7_keys.j4 k x1 x2 x3 x13 x14 (⟨#[]⟩:ByteArray) aN aO aP aQ aR) else(i7_keys.j4 k x1 x2 x3 x13 x14 x15 aN aO aP aQ aR))
def i7_keys.j3:Nat→List ByteArray→List Int→Int→ByteArray→Int→ByteArray→ByteArray→ByteArray→ByteArray→List ByteArray→List (S39)→Option (ByteArray×ByteArray×ByteArray×List ByteArray×(List (S39))×Int×Int)
 |0,_,_,_,_,_,_,_,_,_,_,_=>none
 |k+1,x1,x2,x3,x13,x14,x15,aN,aO,aP,aQ,aR=>if 0≤x3 then(if x3<(x1.length:Int) then((i7_Small.f (rdOf ByteArray.empty x1 x3)).bind fun bE=>(if x15.size+bE.size≤9223372036854775807 then(i7_keys.l1 k x1 x2 (wrap64 (x3+1)) x13 x14 (x15++bE) aN aO aP aQ aR) else(none))) else(none)) else(none)
def i7_keys.j4:Nat→List ByteArray→List Int→Int→ByteArray→Int→ByteArray→ByteArray→ByteArray→ByteArray→List ByteArray→List (S39)→Option (ByteArray×ByteArray×ByteArray×List ByteArray×(List (S39))×Int×Int)
 |0,_,_,_,_,_,_,_,_,_,_,_=>none
 |k+1,x1,x2,x3,x13,x14,x15,aN,aO,aP,aQ,aR=>(i7_putKey.f k aR x13 x15).bind fun cE=>(if cE.2=true then(if (cE.1.length:Int)>64 then(some (aN,aO,aP,aQ,aR,x14,5)) else(i7_keys.l0 k x1 x2 x3 aN aO aP aQ cE.1)) else(some (aN,aO,aP,aQ,aR,x14,6)))
end
def i7_keys.f (k:Nat) (aG:ByteArray) (aH:ByteArray) (aI:ByteArray) (aC:List ByteArray) (aS:List (S39)) (l1:List ByteArray) (l2:List Int) (a3:Int) (a4:Int):Option (ByteArray×ByteArray×ByteArray×List ByteArray×(List (S39))×Int×Int):=if a3=(l1.length:Int) then(some (aG,aH,aI,aC,aS,a4,70)) else(i7_keys.l0 k l1 l2 a3 aG aH aI aC aS)
def i7_keys.T5:Bool×List (List Nat×List Nat):=(true,[([],[]),([],[]),([],[]),([1,2],[1,2]),([3],[3]),([0,0],[0]),([4,5,0,1,2,3,4,5],[4]),([6,0,1,2,3,4,5,6],[])])
def i7_keys.B5:List Nat:=[0,0,0,6,14,1,63,127]
theorem i7_keys.tab5:rtab .any (opsOf Tryz.f82 5)=i7_keys.T5:=by kernel_rfl
theorem i7_keys.bits5:waitsOk i7_keys.T5.2 i7_keys.B5=true:=by kernel_rfl
def i7_keys.T6:Bool×List (List Nat×List Nat):=(true,[([],[]),([],[]),([0,1],[0,1]),([2],[2]),([3],[3]),([],[]),([],[]),([5,6],[5,6]),([7],[7]),([4,4,0,1,2,3,4],[4]),([8,9,0,1,2,3,4,5,6,7,8,9],[8]),([10,0,1,2,3,4,5,6,7,8,9,10],[])])
def i7_keys.B6:List Nat:=[0,0,3,7,15,0,0,96,224,31,1023,2047]
theorem i7_keys.tab6:rtab .any (opsOf Tryz.f82 6)=i7_keys.T6:=by kernel_rfl
theorem i7_keys.bits6:waitsOk i7_keys.T6.2 i7_keys.B6=true:=by kernel_rfl
set_option maxHeartbeats 8000000 in
set_option maxRecDepth 100000 in
theorem i7_keys.calls (k:Nat) (aG:ByteArray) (aH:ByteArray) (aI:ByteArray) (P0_3_:Nat→Prop) (aJ:Option Addr) (aK:Nat) (aC:List ByteArray) (P0_4_:Nat→Prop) (bI:Option Addr) (bJ:Nat) (aS:List (S39)) (A1:Option Addr) (c1:Nat) (l1:List ByteArray) (A2:Option Addr) (c2:Nat) (l2:List Int) (a3:Int) (a4:Int) (r1:ByteArray) (r2:ByteArray) (r3:ByteArray) (r4:List ByteArray) (r5:List (S39)) (r6:Int) (r7:Int) (w:World) (dO:Kd.V Kd.string 9 w w.heap.size (fun k_=>P0_3_ k_) (.slice aJ aC.length aK) aC) (dP:Kd.V k39 39 w w.heap.size (fun k_=>P0_4_ k_) (.slice bI aS.length bJ) aS) (hr1:Kd.C Kd.string w A1 l1.length l1) (hc1:l1.length≤c1) (hr2:Kd.C (Kd.int .i64) w A2 l2.length l2) (hc2:l2.length≤c2) (h:i7_keys.f k aG aH aI aC aS l1 l2 a3 a4=some (r1,r2,r3,r4,r5,r6,r7)):
 Calls Tryz.prog 82 #[.agg #[.string aG,.string aH,.string aI,.slice aJ aC.length aK,.slice bI aS.length bJ],.slice A1 l1.length c1,.slice A2 l2.length c2,.int .i64 a3,.int .i64 a4] w fun e w'=>∃ v3_ v4_:Value,e=.returned (.tuple #[.agg #[.string r1,.string r2,.string r3,v3_,v4_],.int .i64 r6,.int .i64 r7])∧Kd.V Kd.string 9 w' w.heap.size (fun k_=>((P0_3_ k_∨P0_4_ k_)∨w.heap.size≤k_)) v3_ r4∧Kd.V k39 39 w' w.heap.size (fun k_=>((P0_3_ k_∨P0_4_ k_)∨w.heap.size≤k_)) v4_ r5∧Below w.heap.size w w':=by
 have hu25:=Tryz.underlying25;have hu39:=Tryz.underlying39;have bB:=ak_ (show Kd.V Kd.string 9 w w.heap.size (fun k_=>((P0_3_ k_∨P0_4_ k_)∨w.heap.size≤k_)) (.slice aJ aC.length aK) aC from Kd.V_mono dO (fun k_ hk=>.inl (.inl hk)))
 have bC:=ak_ (show Kd.V k39 39 w w.heap.size (fun k_=>((P0_3_ k_∨P0_4_ k_)∨w.heap.size≤k_)) (.slice bI aS.length bJ) aS from Kd.V_mono dP (fun k_ hk=>.inl (.inr hk)))
 have HR1:=ak_ hr1;have HC1:=ak_ hc1;clear hr1 hc1;have HR2:=ak_ hr2;have HC2:=ak_ hc2;clear hr2 hc2;have HB:=ak_ (Below.refl w.heap.size w);have H:(if a3=(l1.length:Int) then(some (aG,aH,aI,aC,aS,a4,70)) else(i7_keys.l0 k l1 l2 a3 aG aH aI aC aS))=some (r1,r2,r3,r4,r5,r6,r7):=h;clear h;by_cases c6:a3=(l1.length:Int)
 ·rw [if_pos c6] at H
  obtain⟨dC,dD⟩:=eq2_ c6;clear c6;simp only [Option.some.injEq,Prod.mk.injEq] at H;obtain⟨rfl,rfl,rfl,rfl,rfl,rfl,rfl⟩:=H
  go_enter Tryz.func82,Tryz.ntmps82
  go_wp2_with (first|((with_reducible refine gate_dst (N:=5) rfl ?_);refine bx_ 5 #[.string aG,.string aH,.string aI,.slice aJ aC.length aK,.slice bI aS.length bJ] 25 ?_;intro aE hg w7 hbox hb;replace bB:=ak_ (ve_ bB hg hb);replace bC:=ak_ (ve_ bC hg hb);have aA:=ak_ (hbox);have dQ:=ak_ (gw_ hg);have dR:=ak_ (gw_ hg);replace HB:=ak_ (below_step hb_ hb);clear hb hbox hg)|((with_reducible refine gate_dst (N:=10) rfl ?_);refine bx_ 10 #[.string ⟨#[]⟩,.string ⟨#[]⟩,.string ⟨#[]⟩,.slice none 0 0,.slice none 0 0] 25 ?_;intro aD hg w8 hbox hb;replace bB:=ak_ (ve_ bB hg hb);replace bC:=ak_ (ve_ bC hg hb);have aB:=ak_ (hbox);have bO:=ak_ (gw_ hg);have dS:=ak_ (gw_ hg);replace HB:=ak_ (below_step hs_ hb);have aT:=ak_ (nl_ aA hg);have aY:=ak_ (ng_ aA hg);replace aA:=ak_ (bb_ aA hb);clear hb hbox hg;have hnb9:=aT.out;have hnc9:=aY.out;obtain⟨eX,eY,eZ,fA,fB,fC,fD,fE,fF,fG⟩:=c5_ aA;obtain⟨fH,fI,fJ,fK,fL,fM,fN,fO,fP,fQ⟩:=c5_ aB))
  refine bodyPost_ret (results_ctt rfl _ _ aD 25 #[.string aG,.string aH,.string aI,.slice aJ aC.length aK,.slice bI aS.length bJ] (0,0) _ rfl (p5_ aB) Tryz.underlying25 rfl (by kernel_rfl)) rfl ?_
  exact⟨_,_,re_,Kd.V_mono (vf5_ bB (fun _ hk=>hk.2)) (fun _ hk=>hk.1.1.1),Kd.V_mono (vf5_ bC (fun _ hk=>hk.2)) (fun _ hk=>hk.1.1.1),hs_⟩
 ·rw [if_neg c6] at H
  obtain⟨dC,dD⟩:=ne2_ c6;have H':=ak_ H;clear H
  go_enter Tryz.func82,Tryz.ntmps82
  go_wp2_with (first|((with_reducible refine gate_dst (N:=5) rfl ?_);refine bx_ 5 #[.string aG,.string aH,.string aI,.slice aJ aC.length aK,.slice bI aS.length bJ] 25 ?_;intro aE hg w12 hbox hb;replace bB:=ak_ (ve_ bB hg hb);replace bC:=ak_ (ve_ bC hg hb);have aA:=ak_ (hbox);have dQ:=ak_ (gw_ hg);have dR:=ak_ (gw_ hg);replace HB:=ak_ (below_step hb_ hb);clear hb hbox hg)|((with_reducible refine gate_dst (N:=10) rfl ?_);refine bx_ 10 #[.string ⟨#[]⟩,.string ⟨#[]⟩,.string ⟨#[]⟩,.slice none 0 0,.slice none 0 0] 25 ?_;intro aD hg w13 hbox hb;replace bB:=ak_ (ve_ bB hg hb);replace bC:=ak_ (ve_ bC hg hb);have aB:=ak_ (hbox);have bO:=ak_ (gw_ hg);have dS:=ak_ (gw_ hg);replace HB:=ak_ (below_step hs_ hb);have aT:=ak_ (nl_ aA hg);have aY:=ak_ (ng_ aA hg);replace aA:=ak_ (bb_ aA hb);clear hb hbox hg))
  go_loopg [3] k (fun kq v3 w'=>∃ (aF:Int) (aL:List (S39)) (aU:ByteArray) (aV:ByteArray) (aW:ByteArray) (u251004:Value),v3=.int .i64 aF∧Aside0 (i7_keys.l0 kq l1 l2 aF aG aH aI aC aL=some (r1,r2,r3,r4,r5,r6,r7))∧Aside0 (kq≤k)∧Aside0 (Kd.V Kd.string 9 w' w.heap.size (fun k_=>((P0_3_ k_∨P0_4_ k_)∨w.heap.size≤k_)∧k_≠aE∧k_≠aD) (.slice aJ aC.length aK) aC)∧Aside0 (Kd.V k39 39 w' w.heap.size (fun k_=>((P0_3_ k_∨P0_4_ k_)∨w.heap.size≤k_)∧k_≠aE∧k_≠aD) u251004 aL)∧Aside0 (w'.heap[aE]?=some (.cells #[.string aG,.string aH,.string aI,(.slice aJ aC.length aK),u251004] 25 (0,0)))∧Aside0 (w'.heap[aD]?=some (.cells #[.string aU,.string aV,.string aW,(.slice none 0 0),(.slice none 0 0)] 25 (0,0)))∧Aside0 (Below w.heap.size w w'))
  case atStart=>exact ⟨(a3),(aS),((⟨#[]⟩:ByteArray)),((⟨#[]⟩:ByteArray)),((⟨#[]⟩:ByteArray)),(.slice bI aS.length bJ),rr_,H',⟨Nat.le_refl _⟩,⟨Kd.V_mono (va_ bB) (fun _ hk=>⟨hk.1.1,⟨hk.1.2,hk.2⟩⟩)⟩,⟨Kd.V_mono (va_ bC) (fun _ hk=>⟨hk.1.1,⟨hk.1.2,hk.2⟩⟩)⟩,⟨bk_ aA⟩,⟨bk_ aB⟩,⟨hs_⟩⟩
  case round =>
   clear H';clear c6 dC dD;obtain⟨aF,aL,aU,aV,aW,u251004,rfl,HA,HK1,HO_251003,HO_251004,aA,aB,HB⟩:=hrel;cases gk with
   |zero=>exact absurd HA.out (by simp [i7_keys.l0])
   | succ k1 =>
    have H:=HA.out;clear HA;simp only [i7_keys.l0] at H;by_cases c14:aF<(l1.length:Int)
    ·rw [if_pos c14] at H
     have dE:decide (aF<(l1.length:Int))=true:=decide_eq_true c14;clear c14;by_cases c15:0≤aF
     ·rw [if_pos c15] at H
      have dT:decide (0≤aF)=true:=decide_eq_true c15;clear c15;replace H:=Option.bind_eq_some_iff.mp H;obtain⟨cD,dF,H⟩:=H;try dsimp only at H
      have A16:=ak_ dF;clear dF;by_cases c17:cD=true
      ·subst c17
       replace H:=it_ H;replace H:=Option.bind_eq_some_iff.mp H;obtain⟨aX,dG,H⟩:=H;try dsimp only at H
       have A18:=ak_ dG;clear dG;by_cases c19:aF<(l2.length:Int)
       ·rw [if_pos c19] at H
        have dU:decide (aF<(l2.length:Int))=true:=decide_eq_true c19;clear c19;have H':=ak_ H;clear H;have bF:0≤(aF:Int):=od_;have bG:aF<(l1.length:Int):=od_;obtain⟨bP,cF,bH⟩:=Kd.at_string HR1.out aF bF bG;cases cF;replace bH:=hx_ HB.out bH;replace bF:=eq_true bF;replace bG:=eq_true bG;try go_wp2_with (first|((with_reducible refine gate_callee (f:=35) rfl ?_);refine gb_ (some 32) Tryz.func35 #[.string (rdOf ByteArray.empty l1 aF),.int .i64 2,.int .i64 2] ?_;(with_reducible refine(i7_signs.calls k1 (rdOf ByteArray.empty l1 aF) 2 2 true _ A16.out).mono ?_);rintro e w' ⟨rfl,⟨nd,rfl⟩⟩;refine⟨_,rfl,?_⟩))
        (try (rw [drewN_self wr];generalize hq_:World.drewN wr _=wr;have n0_:Aside0 (Kd.V Kd.string 9 wr w.heap.size (fun k_=>((P0_3_ k_∨P0_4_ k_)∨w.heap.size≤k_)∧k_≠aE∧k_≠aD) (.slice aJ aC.length aK) aC):=⟨by rw [← hq_];exact(va_ HO_251003)⟩;have n1_:Aside0 (Kd.V k39 39 wr w.heap.size (fun k_=>((P0_3_ k_∨P0_4_ k_)∨w.heap.size≤k_)∧k_≠aE∧k_≠aD) u251004 aL):=⟨by rw [← hq_];exact(va_ HO_251004)⟩;have n2_:Aside0 (wr.heap[aE]?=some (.cells #[.string aG,.string aH,.string aI,.slice aJ aC.length aK,u251004] 25 (0,0))):=⟨by rw [← hq_];exact(bk_ aA)⟩;have n3_:Aside0 (wr.heap[aD]?=some (.cells #[.string aU,.string aV,.string aW,.slice none 0 0,.slice none 0 0] 25 (0,0))):=⟨by rw [← hq_];exact(bk_ aB)⟩;have n4_:Aside0 (Below w.heap.size w wr):=⟨by rw [← hq_];exact hs_⟩;clear HO_251003 HO_251004 aA aB HB hq_;have HO_251003:=n0_;have HO_251004:=n1_;have aA:=n2_;have aB:=n3_;have HB:=n4_;clear n0_ n1_ n2_ n3_ n4_;(try (have hu250_0:wr.cell? ⟨aE,0,none⟩=some (.string aG):=(blk_cell aA.out 0).trans rfl));(try (have hu250_1:wr.cell? ⟨aE,1,none⟩=some (.string aH):=(blk_cell aA.out 1).trans rfl));(try (have hu250_2:wr.cell? ⟨aE,2,none⟩=some (.string aI):=(blk_cell aA.out 2).trans rfl));(try (have hu250_3:wr.cell? ⟨aE,3,none⟩=some (.slice aJ aC.length aK):=(blk_cell aA.out 3).trans rfl));(try (have hu250_4:wr.cell? ⟨aE,4,none⟩=some (u251004):=(blk_cell aA.out 4).trans rfl));(try (have hu251_0:wr.cell? ⟨aD,0,none⟩=some (.string aU):=(blk_cell aB.out 0).trans rfl));(try (have hu251_1:wr.cell? ⟨aD,1,none⟩=some (.string aV):=(blk_cell aB.out 1).trans rfl));(try (have hu251_2:wr.cell? ⟨aD,2,none⟩=some (.string aW):=(blk_cell aB.out 2).trans rfl));(try (have hu251_3:wr.cell? ⟨aD,3,none⟩=some (.slice none 0 0):=(blk_cell aB.out 3).trans rfl));(try (have hu251_4:wr.cell? ⟨aD,4,none⟩=some (.slice none 0 0):=(blk_cell aB.out 4).trans rfl));(try (have hv250_0:=blk_frozen aA.out 0));(try (have hv250_1:=blk_frozen aA.out 1));(try (have hv250_2:=blk_frozen aA.out 2));(try (have hv250_3:=blk_frozen aA.out 3));(try (have hv250_4:=blk_frozen aA.out 4));(try (have hv251_0:=blk_frozen aB.out 0));(try (have hv251_1:=blk_frozen aB.out 1));(try (have hv251_2:=blk_frozen aB.out 2));(try (have hv251_3:=blk_frozen aB.out 3));(try (have hv251_4:=blk_frozen aB.out 4))))
        replace HO_251003:=ak_ (Kd.V_drew HO_251003.out);replace HO_251004:=ak_ (Kd.V_drew HO_251004.out);replace aA:=ak_ (blk_drew aA.out);replace aB:=ak_ (blk_drew aB.out);replace HB:=ak_ (below_drew1 HB.out);have bW:0≤(aF:Int):=od_;have bX:aF<(l1.length:Int):=od_;obtain⟨dV,dW,bL⟩:=Kd.at_string HR1.out aF bW bX;have bY:=bL;obtain rfl:bP=dV:=(by injection dW)
        replace bL:=hx_ HB.out bL;replace bW:=eq_true bW;replace bX:=eq_true bX;have bZ:0≤(aF:Int):=od_;have cA:aF<(l2.length:Int):=od_;obtain⟨dX,dY,bM⟩:=Kd.at_int HR2.out aF bZ cA;have cB:=bM;cases dY;replace bM:=hx_ HB.out bM;replace bZ:=eq_true bZ;replace cA:=eq_true cA;refine start_ (n:=12) (S:=fun w'=>w'.cell? (bP.add (aF).toNat)=some (.string (rdOf ByteArray.empty l1 aF))∧w'.cell? (dX.add (aF).toNat)=some (.int .i64 (rd l2 aF))) (ds:=[]) (bmp 12 0) (by kernel_rfl) rfl rfl ⟨(hx_ HB.out bY :),(hx_ HB.out cB :)⟩ (fun hHeld=>?_);refine with_tabW i7_keys.tab6 i7_keys.bits6 (fun HT_ HW_=>?_)
        generalize wr.drew=w20 at HO_251003 HO_251004 aA aB HB bL bM hHeld ⊢
        iterate 3 (refine pu_ HT_ ?_)
        refine pg_ 5 (bm 12 39) HT_ ?_;refine pg_ 6 (bm 12 103) HT_ ?_;refine pg_ 7 (bm 12 231) HT_ ?_;refine tg_ 3 (bm 12 239) HT_ HW_ hHeld ?_;refine tg_ 8 (bm 12 495) HT_ HW_ hHeld ?_;refine one_ (i:=4) (N:=some 43) (bmp 12 9) rfl rfl (one_of HT_.out (by kernel_rfl)) (by decide) (fun K hK=>?_)
        refine goes_ Tryz.func29 (by kernel_rfl) rfl #[.string (rdOf ByteArray.empty l1 aF)] (by rfl) rfl rfl (by(try simp only [List.map_toArray,List.map_cons,List.map_nil]);first|done|rfl|(simp only [List.length_drop,List.length_take];rfl)) ?_
        with_reducible refine(i7_Small.calls (rdOf ByteArray.empty l1 aF) aX _ A18.out).mono ?_
        rintro e w21 ⟨rfl,hb⟩;refine⟨_,rfl,?_⟩;replace HO_251003:=ak_ (Kd.V_below (va_ HO_251003) hb);replace HO_251004:=ak_ (Kd.V_below (va_ HO_251004) hb);replace aA:=ak_ (bb_ aA hb);replace aB:=ak_ (bb_ aB hb);replace HB:=ak_ (below_step hs_ hb)
        (try clear hb)
        (try clear hb2)
        (try clear hk)
        (try clear hi)
        refine hK.out _ _ ⟨(hx_ HB.out bY :),(hx_ HB.out cB :)⟩ (fun hHeld=>?_);clear hK K;refine norm_ (a':=?_) ?_ ?_
        rotate_left
        ·show Act.put _ (some 43) _=_
         simp only [Act.put,List.setIfInBounds_toArray,List.set_cons_zero,List.set_cons_succ,i64_w,i32_w];rfl
        iterate 3 (refine pu_ HT_ ?_)
        refine dg_ HT_ ?_;try go_wp2
        go_loopg [3,15] k1 (fun kq v3 v15 w'=>∃ (aM:Int) (aZ:ByteArray),v3=.int .i64 aM∧v15=.string aZ∧Aside0 (i7_keys.l1 kq l1 l2 aM aX (rd l2 aF) aZ aG aH aI aC aL=some (r1,r2,r3,r4,r5,r6,r7))∧Aside0 (kq≤k1)∧Aside0 (Kd.V Kd.string 9 w' w.heap.size (fun k_=>((P0_3_ k_∨P0_4_ k_)∨w.heap.size≤k_)∧k_≠aE∧k_≠aD) (.slice aJ aC.length aK) aC)∧Aside0 (Kd.V k39 39 w' w.heap.size (fun k_=>((P0_3_ k_∨P0_4_ k_)∨w.heap.size≤k_)∧k_≠aE∧k_≠aD) u251004 aL)∧Aside0 (w'.heap[aE]?=some (.cells #[.string aG,.string aH,.string aI,(.slice aJ aC.length aK),u251004] 25 (0,0)))∧Aside0 (w'.heap[aD]?=some (.cells #[.string aU,.string aV,.string aW,(.slice none 0 0),(.slice none 0 0)] 25 (0,0)))∧Aside0 (Below w.heap.size w w'))
        case atStart=>exact ⟨(wrap64 (aF+1)),((⟨#[]⟩:ByteArray)),rr_,rr_,H',⟨Nat.le_refl _⟩,⟨va_ HO_251003⟩,⟨va_ HO_251004⟩,⟨bk_ aA⟩,⟨bk_ aB⟩,⟨hs_⟩⟩
        case round=>
         clear H';clear dE dT dU bH bL bM bF bW bZ bG bX cA;obtain⟨aM,aZ,rfl,rfl,HA,HK2,HO_251003,HO_251004,aA,aB,HB⟩:=hrel;cases gk with
         |zero=>exact absurd HA.out (by simp [i7_keys.l1])
         | succ k2=>
          have H:=HA.out;clear HA;simp only [i7_keys.l1] at H;have cG:=ak_ H;clear H
          go_upto_region 8 with (fail)
          go_cut [60] (fun v60 wc=>∃ (kq:Nat) (cC:Bool),v60=.bool cC∧Aside0 (i7_keys.j2 kq l1 l2 aM aX (rd l2 aF) aZ cC aG aH aI aC aL=some (r1,r2,r3,r4,r5,r6,r7))∧Aside0 (kq≤k2)∧Aside0 (Kd.V Kd.string 9 wc w.heap.size (fun k_=>((P0_3_ k_∨P0_4_ k_)∨w.heap.size≤k_)∧k_≠aE∧k_≠aD) (.slice aJ aC.length aK) aC)∧Aside0 (Kd.V k39 39 wc w.heap.size (fun k_=>((P0_3_ k_∨P0_4_ k_)∨w.heap.size≤k_)∧k_≠aE∧k_≠aD) u251004 aL)∧Aside0 (wc.heap[aE]?=some (.cells #[.string aG,.string aH,.string aI,(.slice aJ aC.length aK),u251004] 25 (0,0)))∧Aside0 (wc.heap[aD]?=some (.cells #[.string aU,.string aV,.string aW,(.slice none 0 0),(.slice none 0 0)] 25 (0,0)))∧Aside0 (Below w.heap.size w wc))
          case first=>
           have H:=cG.out;clear cG;by_cases c23:aM<(l1.length:Int)
           ·rw [if_pos c23] at H
            have bQ:decide (aM<(l1.length:Int))=true:=decide_eq_true c23;clear c23
            (first|rw [bQ]|rw [dZ]|rw [eA]|(simp only [i64_w,i32_w];rw [bQ])|skip)
            (try simp only [Bool.not_true,Bool.not_false])
            by_cases c24:0≤aM
            ·rw [if_pos c24] at H
             have c24b0:decide (0≤aM)=true:=decide_eq_true c24;clear c24;replace H:=Option.bind_eq_some_iff.mp H;obtain⟨bV,dH,H⟩:=H;try dsimp only at H
             have A25:=ak_ dH;clear dH;have H':=ak_ H;clear H;have cH:0≤(aM:Int):=od_;have cI:aM<(l1.length:Int):=od_;obtain⟨eB,eC,cJ⟩:=Kd.at_string HR1.out aM cH cI;obtain rfl:bP=eB:=(by injection eC)
             replace cJ:=hx_ HB.out cJ;replace cH:=eq_true cH;replace cI:=eq_true cI
             go_wp2_with (first|(go_at_call 35;(with_reducible refine(i7_signs.calls k2 (rdOf ByteArray.empty l1 aM) 3 8 bV _ A25.out).mono ?_);rintro e w' ⟨rfl,⟨nd,rfl⟩⟩))
             go_meet
             case rel=>exact ⟨_,(bV),rr_,H',⟨by have:=HK1.out;have:=HK2.out;first|omega|exact Nat.le_refl _⟩,⟨va_ HO_251003⟩,⟨va_ HO_251004⟩,⟨bk_ aA⟩,⟨bk_ aB⟩,⟨hs_⟩⟩
            ·rw [if_neg c24] at H
             exact absurd H (by simp)
           ·rw [if_neg c23] at H
            have bQ:decide (aM<(l1.length:Int))=false:=decide_eq_false c23;clear c23
            (first|rw [bQ]|rw [dZ]|rw [eA]|(simp only [i64_w,i32_w];rw [bQ])|skip)
            (try simp only [Bool.not_true,Bool.not_false])
            have H':=ak_ H;clear H
            go_wp2
            go_meet
            case rel=>exact ⟨_,(false),rr_,H',⟨by have:=HK1.out;have:=HK2.out;first|omega|exact Nat.le_refl _⟩,⟨va_ HO_251003⟩,⟨va_ HO_251004⟩,⟨bk_ aA⟩,⟨bk_ aB⟩,⟨hs_⟩⟩
          case rest=>
           clear cG;obtain⟨kq,cC,rfl,HA,HJ21,HO_251003,HO_251004,aA,aB,HB⟩:=hcut;cases kq with
           |zero=>exact absurd HA.out (by simp [i7_keys.j2])
           | succ kj21=>
            have H:=HA.out;clear HA;simp only [i7_keys.j2] at H;by_cases c26:cC=true
            ·subst c26
             replace H:=it_ H;have cK:=ak_ H;clear H
             go_upto_if 64 with (fail)
             go_cut [15] (fun v15 wc=>∃ (kq:Nat) (bK:ByteArray),v15=.string bK∧Aside0 (i7_keys.j3 kq l1 l2 aM aX (rd l2 aF) bK aG aH aI aC aL=some (r1,r2,r3,r4,r5,r6,r7))∧Aside0 (kq≤kj21)∧Aside0 (Kd.V Kd.string 9 wc w.heap.size (fun k_=>((P0_3_ k_∨P0_4_ k_)∨w.heap.size≤k_)∧k_≠aE∧k_≠aD) (.slice aJ aC.length aK) aC)∧Aside0 (Kd.V k39 39 wc w.heap.size (fun k_=>((P0_3_ k_∨P0_4_ k_)∨w.heap.size≤k_)∧k_≠aE∧k_≠aD) u251004 aL)∧Aside0 (wc.heap[aE]?=some (.cells #[.string aG,.string aH,.string aI,(.slice aJ aC.length aK),u251004] 25 (0,0)))∧Aside0 (wc.heap[aD]?=some (.cells #[.string aU,.string aV,.string aW,(.slice none 0 0),(.slice none 0 0)] 25 (0,0)))∧Aside0 (Below w.heap.size w wc))
             case first=>
              have H:=cK.out;clear cK;by_cases c28:aZ.toList=([]:List UInt8)
              ·rw [if_pos c28] at H
               obtain⟨bR,cL,cM⟩:=eq3_ c28;clear c28
               (first|rw [bR]|rw [cL]|rw [cM]|(simp only [i64_w,i32_w];rw [bR])|skip)
               (try simp only [Bool.not_true,Bool.not_false])
               have H':=ak_ H;clear H
               go_wp2
               go_meet
               case rel=>exact ⟨_,(aZ),rr_,H',⟨by have:=HK1.out;have:=HK2.out;have:=HJ21.out;first|omega|exact Nat.le_refl _⟩,⟨va_ HO_251003⟩,⟨va_ HO_251004⟩,⟨bk_ aA⟩,⟨bk_ aB⟩,⟨hs_⟩⟩
              ·rw [if_neg c28] at H
               obtain⟨bR,cL,cM⟩:=ne3_ c28
               (first|rw [bR]|rw [cL]|rw [cM]|(simp only [i64_w,i32_w];rw [bR])|skip)
               (try simp only [Bool.not_true,Bool.not_false])
               by_cases c29:aZ.size+1≤9223372036854775807
               ·rw [if_pos c29] at H
                have c29b0:=eq_true c29;have c29b1:decide (aZ.size+1≤9223372036854775807)=true:=decide_eq_true c29;try have eD:(9223372036854775807<aZ.size+1)=False:=eq_false (Nat.not_lt.2 c29)
                (try (have eE:=eD;simp only [ByteArray.size_append,sz1_,sz2_,sz3_] at eE))
                have H':=ak_ H;clear H
                go_wp2
                go_meet
                case rel=>exact ⟨_,(aZ++(⟨#[45]⟩:ByteArray)),rr_,H',⟨by have:=HK1.out;have:=HK2.out;have:=HJ21.out;first|omega|exact Nat.le_refl _⟩,⟨va_ HO_251003⟩,⟨va_ HO_251004⟩,⟨bk_ aA⟩,⟨bk_ aB⟩,⟨hs_⟩⟩
               ·rw [if_neg c29] at H
                exact absurd H (by simp)
             case rest=>
              clear cK;obtain⟨kq,bK,rfl,HA,HJ26,HO_251003,HO_251004,aA,aB,HB⟩:=hcut;cases kq with
              |zero=>exact absurd HA.out (by simp [i7_keys.j3])
              | succ kj26=>
               have H:=HA.out;clear HA;simp only [i7_keys.j3] at H;by_cases c30:0≤aM
               ·rw [if_pos c30] at H
                have c30b0:decide (0≤aM)=true:=decide_eq_true c30;clear c30;by_cases c31:aM<(l1.length:Int)
                ·rw [if_pos c31] at H
                 have c31b0:decide (aM<(l1.length:Int))=true:=decide_eq_true c31;clear c31;replace H:=Option.bind_eq_some_iff.mp H;obtain⟨bE,dI,H⟩:=H;try dsimp only at H
                 have A32:=ak_ dI;clear dI;by_cases c33:bK.size+bE.size≤9223372036854775807
                 ·rw [if_pos c33] at H
                  have c33b0:=eq_true c33;have c33b1:decide (bK.size+bE.size≤9223372036854775807)=true:=decide_eq_true c33;try have eF:(9223372036854775807<bK.size+bE.size)=False:=eq_false (Nat.not_lt.2 c33)
                  (try (have eG:=eF;simp only [ByteArray.size_append,sz1_,sz2_,sz3_] at eG))
                  have H':=ak_ H;clear H;have cN:0≤(aM:Int):=od_;have cO:aM<(l1.length:Int):=od_;obtain⟨eH,eI,cP⟩:=Kd.at_string HR1.out aM cN cO;obtain rfl:bP=eH:=(by injection eI)
                  replace cP:=hx_ HB.out cP;replace cN:=eq_true cN;replace cO:=eq_true cO
                  go_wp2_with (first|((with_reducible refine gate_callee (f:=29) rfl ?_);refine gb_ (some 72) Tryz.func29 #[.string (rdOf ByteArray.empty l1 aM)] ?_;(with_reducible refine(i7_Small.calls (rdOf ByteArray.empty l1 aM) bE _ A32.out).mono ?_);rintro e w34 ⟨rfl,hb⟩;refine⟨_,rfl,?_⟩;replace HO_251003:=ak_ (Kd.V_below (va_ HO_251003) hb);replace HO_251004:=ak_ (Kd.V_below (va_ HO_251004) hb);replace aA:=ak_ (bb_ aA hb);replace aB:=ak_ (bb_ aB hb);replace HB:=ak_ (below_step hs_ hb);try clear hb))
                  go_roundg kj26
                  case measure=>have:=HK1.out;have:=HK2.out;have:=HJ21.out;have:=HJ26.out;omega
                  case rel=>exact ⟨(wrap64 (aM+1)),(bK++bE),rr_,rr_,H',⟨by have:=HK1.out;have:=HK2.out;have:=HJ21.out;have:=HJ26.out;omega⟩,⟨va_ HO_251003⟩,⟨va_ HO_251004⟩,⟨bk_ aA⟩,⟨bk_ aB⟩,⟨hs_⟩⟩
                 ·rw [if_neg c33] at H
                  exact absurd H (by simp)
                ·rw [if_neg c31] at H
                 exact absurd H (by simp)
               ·rw [if_neg c30] at H
                exact absurd H (by simp)
            ·replace c26:=Bool.eq_false_iff.mpr c26
             subst c26;replace H:=if_f_ H;have cQ:=ak_ H;clear H
             go_upto_if 75 with (fail)
             go_cut [15] (fun v15 wc=>∃ (kq:Nat) (bD:ByteArray),v15=.string bD∧Aside0 (i7_keys.j4 kq l1 l2 aM aX (rd l2 aF) bD aG aH aI aC aL=some (r1,r2,r3,r4,r5,r6,r7))∧Aside0 (kq≤kj21)∧Aside0 (Kd.V Kd.string 9 wc w.heap.size (fun k_=>((P0_3_ k_∨P0_4_ k_)∨w.heap.size≤k_)∧k_≠aE∧k_≠aD) (.slice aJ aC.length aK) aC)∧Aside0 (Kd.V k39 39 wc w.heap.size (fun k_=>((P0_3_ k_∨P0_4_ k_)∨w.heap.size≤k_)∧k_≠aE∧k_≠aD) u251004 aL)∧Aside0 (wc.heap[aE]?=some (.cells #[.string aG,.string aH,.string aI,(.slice aJ aC.length aK),u251004] 25 (0,0)))∧Aside0 (wc.heap[aD]?=some (.cells #[.string aU,.string aV,.string aW,(.slice none 0 0),(.slice none 0 0)] 25 (0,0)))∧Aside0 (Below w.heap.size w wc))
             case first=>
              have H:=cQ.out;clear cQ;by_cases c36:aZ.toList=([116,114,117,101]:List UInt8)
              ·rw [if_pos c36] at H
               obtain⟨bS,cR⟩:=eq2_ c36;clear c36
               (first|rw [bS]|rw [cR]|rw [eJ]|(simp only [i64_w,i32_w];rw [bS])|skip)
               (try simp only [Bool.not_true,Bool.not_false])
               have H':=ak_ H;clear H
               go_wp2
               go_meet
               case rel=>exact ⟨_,((⟨#[]⟩:ByteArray)),rr_,H',⟨by have:=HK1.out;have:=HK2.out;have:=HJ21.out;first|omega|exact Nat.le_refl _⟩,⟨va_ HO_251003⟩,⟨va_ HO_251004⟩,⟨bk_ aA⟩,⟨bk_ aB⟩,⟨hs_⟩⟩
              ·rw [if_neg c36] at H
               obtain⟨bS,cR⟩:=ne2_ c36
               (first|rw [bS]|rw [cR]|rw [eJ]|(simp only [i64_w,i32_w];rw [bS])|skip)
               (try simp only [Bool.not_true,Bool.not_false])
               have H':=ak_ H;clear H
               go_wp2
               go_meet
               case rel=>exact ⟨_,(aZ),rr_,H',⟨by have:=HK1.out;have:=HK2.out;have:=HJ21.out;first|omega|exact Nat.le_refl _⟩,⟨va_ HO_251003⟩,⟨va_ HO_251004⟩,⟨bk_ aA⟩,⟨bk_ aB⟩,⟨hs_⟩⟩
             case rest=>
              clear cQ;obtain⟨kq,bD,rfl,HA,HJ34,HO_251003,HO_251004,aA,aB,HB⟩:=hcut;cases kq with
              |zero=>exact absurd HA.out (by simp [i7_keys.j4])
              | succ kj34=>
               have H:=HA.out;clear HA;simp only [i7_keys.j4] at H;replace H:=Option.bind_eq_some_iff.mp H;obtain⟨⟨bA,eK⟩,dJ,H⟩:=H;try dsimp only at H
               have A37:=ak_ dJ;clear dJ;by_cases c38:eK=true
               ·subst c38
                replace H:=it_ H;by_cases c39:(bA.length:Int)>64
                ·rw [if_pos c39] at H
                 have eL:decide (64<(bA.length:Int))=true:=decide_eq_true c39;have eM:decide (64<bA.length)=true:=decide_eq_true (by omega)
                 clear c39;simp only [Option.some.injEq,Prod.mk.injEq] at H;obtain⟨rfl,rfl,rfl,rfl,rfl,rfl,rfl⟩:=H;have hnb40:=aT.out;have hnc40:=aY.out;obtain⟨fR,fS,fT,fU,fV,fW,fX,fY,fZ,gA⟩:=c5_ aA;obtain⟨cS,cT,eN⟩:=Kd.V_slice HO_251004.out;subst eN
                 go_wp2_with (first|((with_reducible refine gate_callee (f:=110) rfl ?_);refine gb_ (some 82) Tryz.func110 #[.slice cS aL.length cT,.agg #[.string aX,.string bD]] ?_;(with_reducible refine(i7_putKey.calls kj34 (fun k_=>(((P0_3_ k_∨P0_4_ k_)∨w.heap.size≤k_)∧(k_≠aE∧k_≠aD))) _ _ aL aX bD bA true _ ?side1 A37.out).mono ?_);(case side1=>exact HO_251004.out);rintro e w43 ⟨dK,rfl,ho0,hb⟩;refine⟨_,rfl,?_⟩;replace HO_251003:=ak_ (Kd.V_below (va_ HO_251003) hb);replace HO_251004:=ak_ (Kd.V_below (va_ HO_251004) hb);have bT:=ak_ (Kd.V_lower (Kd.V_mono (ok':=fun k_=>((P0_3_ k_∨P0_4_ k_)∨w.heap.size≤k_)∧k_≠aE∧k_≠aD) ho0 (fun k_ hk_=>⟨Or.elim hk_ (fun hs_=>hs_.1) (fun hn_=>(.inr (Nat.le_trans hsz_ hn_))),Or.elim hk_ (fun hs_=>hs_.2.1) (fun hn_=>(Kd.freshB (g:=aE) (o:=.cells #[.string aG,.string aH,.string aI,.slice aJ aC.length aK,.slice cS aL.length cT] 25 (0,0)) (bk_ aA) k_ hn_)),Or.elim hk_ (fun hs_=>hs_.2.2) (fun hn_=>(Kd.freshB (g:=aD) (o:=.cells #[.string aU,.string aV,.string aW,.slice none 0 0,.slice none 0 0] 25 (0,0)) (bk_ aB) k_ hn_))⟩)) hsz_);replace aA:=ak_ (bb_ aA hb);replace aB:=ak_ (bb_ aB hb);replace HB:=ak_ (below_step hs_ hb);try clear hb;(try clear ho0);obtain⟨Ao44,co44,eO⟩:=Kd.V_slice bT.out;subst eO;obtain⟨gB,gC,gD,gE,gF,gG,gH,gI,gJ,gK⟩:=c5_ aA;obtain⟨gL,gM,gN,gO,gP,gQ,gR,gS,gT,gU⟩:=c5_ aB))
                 refine bodyPost_ret (results_ctt rfl _ _ aD 25 #[.string aG,.string aH,.string aI,.slice aJ aC.length aK,.slice cS aL.length cT] (0,0) _ rfl (p5_ aB) Tryz.underlying25 rfl (by kernel_rfl)) rfl ?_
                 exact⟨_,_,re_,Kd.V_mono (vf5_ HO_251003 (fun _ hk=>hk.2.2)) (fun _ hk=>hk.1.1),Kd.V_mono (vf5_ HO_251004 (fun _ hk=>hk.2.2)) (fun _ hk=>hk.1.1),hs_⟩
                ·rw [if_neg c39] at H
                 have eL:decide (64<(bA.length:Int))=false:=decide_eq_false c39;have eM:decide (64<bA.length)=false:=decide_eq_false (by omega)
                 clear c39;have H':=ak_ H;clear H;have hnb47:=aT.out;have hnc47:=aY.out;obtain⟨gV,gW,gX,gY,gZ,hA,hB,hC,hD,hE⟩:=c5_ aA;obtain⟨cU,cV,eP⟩:=Kd.V_slice HO_251004.out;subst eP
                 go_wp2_with (first|((with_reducible refine gate_callee (f:=110) rfl ?_);refine gb_ (some 82) Tryz.func110 #[.slice cU aL.length cV,.agg #[.string aX,.string bD]] ?_;(with_reducible refine(i7_putKey.calls kj34 (fun k_=>(((P0_3_ k_∨P0_4_ k_)∨w.heap.size≤k_)∧(k_≠aE∧k_≠aD))) _ _ aL aX bD bA true _ ?side1 A37.out).mono ?_);(case side1=>exact HO_251004.out);rintro e w50 ⟨dK,rfl,ho0,hb⟩;refine⟨_,rfl,?_⟩;replace HO_251003:=ak_ (Kd.V_below (va_ HO_251003) hb);replace HO_251004:=ak_ (Kd.V_below (va_ HO_251004) hb);have bT:=ak_ (Kd.V_lower (Kd.V_mono (ok':=fun k_=>((P0_3_ k_∨P0_4_ k_)∨w.heap.size≤k_)∧k_≠aE∧k_≠aD) ho0 (fun k_ hk_=>⟨Or.elim hk_ (fun hs_=>hs_.1) (fun hn_=>(.inr (Nat.le_trans hsz_ hn_))),Or.elim hk_ (fun hs_=>hs_.2.1) (fun hn_=>(Kd.freshB (g:=aE) (o:=.cells #[.string aG,.string aH,.string aI,.slice aJ aC.length aK,.slice cU aL.length cV] 25 (0,0)) (bk_ aA) k_ hn_)),Or.elim hk_ (fun hs_=>hs_.2.2) (fun hn_=>(Kd.freshB (g:=aD) (o:=.cells #[.string aU,.string aV,.string aW,.slice none 0 0,.slice none 0 0] 25 (0,0)) (bk_ aB) k_ hn_))⟩)) hsz_);replace aA:=ak_ (bb_ aA hb);replace aB:=ak_ (bb_ aB hb);replace HB:=ak_ (below_step hs_ hb);try clear hb;(try clear ho0);obtain⟨cW,cX,eQ⟩:=Kd.V_slice bT.out;subst eQ;obtain⟨hF,hG,hH,hI,hJ,hL,hM,hN,hO,hP⟩:=c5_ aA))
                 go_roundg kj34
                 case measure=>have:=HK1.out;have:=HK2.out;have:=HJ21.out;have:=HJ34.out;omega
                 case rel=>exact ⟨(aM),(bA),(aU),(aV),(aW),(.slice cW bA.length cX),rr_,H',⟨by have:=HK1.out;have:=HK2.out;have:=HJ21.out;have:=HJ34.out;omega⟩,⟨by(with_reducible repeat (first|apply Kd.V_alloc|apply Kd.V_drewN|apply Kd.V_drew));exact Kd.V_mono (Kd.V_far (p:=⟨aE,4,none⟩) (Kd.V_mono HO_251003.out (fun k_ hk=>(⟨hk,hk.2.1⟩:_∧k_≠aE))) (fun _ hk=>hk.2) (.slice cW bA.length cX)) (fun _ hk=>⟨hk.1.1,⟨hk.1.2.1,hk.1.2.2⟩⟩)⟩,⟨by(with_reducible repeat (first|apply Kd.V_alloc|apply Kd.V_drewN|apply Kd.V_drew));exact Kd.V_mono (Kd.V_far (p:=⟨aE,4,none⟩) (Kd.V_mono bT.out (fun k_ hk=>(⟨hk,hk.2.1⟩:_∧k_≠aE))) (fun _ hk=>hk.2) (.slice cW bA.length cX)) (fun _ hk=>⟨hk.1.1,⟨hk.1.2.1,hk.1.2.2⟩⟩)⟩,⟨by refine blk_put (cs:=#[.string aG,.string aH,.string aI,.slice aJ aC.length aK,.slice cU aL.length cV]) ?_ 4 _ rfl;(with_reducible repeat (first|refine blk_drewN ?_ _|refine blk_drew ?_|refine blk_alloc ?_ _));exact aA.out⟩,⟨by refine blk_far ?_ aY.out _;(with_reducible repeat (first|refine blk_drewN ?_ _|refine blk_drew ?_|refine blk_alloc ?_ _));exact aB.out⟩,⟨hs_⟩⟩
               ·replace c38:=Bool.eq_false_iff.mpr c38
                subst c38;replace H:=if_f_ H;simp only [Option.some.injEq,Prod.mk.injEq] at H;obtain⟨rfl,rfl,rfl,rfl,rfl,rfl,rfl⟩:=H;have hnb53:=aT.out;have hnc53:=aY.out;obtain⟨hQ,hR,hS,hT,hU,hV,hW,hX,hY,hZ⟩:=c5_ aA;obtain⟨cY,cZ,eR⟩:=Kd.V_slice HO_251004.out;subst eR
                go_wp2_with (first|((with_reducible refine gate_callee (f:=110) rfl ?_);refine gb_ (some 82) Tryz.func110 #[.slice cY aL.length cZ,.agg #[.string aX,.string bD]] ?_;(with_reducible refine(i7_putKey.calls kj34 (fun k_=>(((P0_3_ k_∨P0_4_ k_)∨w.heap.size≤k_)∧(k_≠aE∧k_≠aD))) _ _ aL aX bD bA false _ ?side1 A37.out).mono ?_);(case side1=>exact HO_251004.out);rintro e w56 ⟨dK,rfl,ho0,hb⟩;refine⟨_,rfl,?_⟩;replace HO_251003:=ak_ (Kd.V_below (va_ HO_251003) hb);replace HO_251004:=ak_ (Kd.V_below (va_ HO_251004) hb);have bT:=ak_ (Kd.V_lower (Kd.V_mono (ok':=fun k_=>((P0_3_ k_∨P0_4_ k_)∨w.heap.size≤k_)∧k_≠aE∧k_≠aD) ho0 (fun k_ hk_=>⟨Or.elim hk_ (fun hs_=>hs_.1) (fun hn_=>(.inr (Nat.le_trans hsz_ hn_))),Or.elim hk_ (fun hs_=>hs_.2.1) (fun hn_=>(Kd.freshB (g:=aE) (o:=.cells #[.string aG,.string aH,.string aI,.slice aJ aC.length aK,.slice cY aL.length cZ] 25 (0,0)) (bk_ aA) k_ hn_)),Or.elim hk_ (fun hs_=>hs_.2.2) (fun hn_=>(Kd.freshB (g:=aD) (o:=.cells #[.string aU,.string aV,.string aW,.slice none 0 0,.slice none 0 0] 25 (0,0)) (bk_ aB) k_ hn_))⟩)) hsz_);replace aA:=ak_ (bb_ aA hb);replace aB:=ak_ (bb_ aB hb);replace HB:=ak_ (below_step hs_ hb);try clear hb;(try clear ho0);obtain⟨iA,iB,iC,iD,iE,iF,iG,iH,iI,iJ⟩:=c5_ aA;obtain⟨iK,iL,iM,iN,iO,iP,iQ,iR,iS,iT⟩:=c5_ aB))
                refine bodyPost_ret (results_ctt rfl _ _ aD 25 #[.string aG,.string aH,.string aI,.slice aJ aC.length aK,.slice cY aL.length cZ] (0,0) _ rfl (p5_ aB) Tryz.underlying25 rfl (by kernel_rfl)) rfl ?_
                exact⟨_,_,re_,Kd.V_mono (vf5_ HO_251003 (fun _ hk=>hk.2.2)) (fun _ hk=>hk.1.1),Kd.V_mono (vf5_ HO_251004 (fun _ hk=>hk.2.2)) (fun _ hk=>hk.1.1),hs_⟩
       ·rw [if_neg c19] at H
        exact absurd H (by simp)
      ·replace c17:=Bool.eq_false_iff.mpr c17
       subst c17;replace H:=if_f_ H;by_cases c59:aF<(l2.length:Int)
       ·rw [if_pos c59] at H
        have c59b0:decide (aF<(l2.length:Int))=true:=decide_eq_true c59;clear c59;simp only [Option.some.injEq,Prod.mk.injEq] at H;obtain⟨rfl,rfl,rfl,rfl,rfl,rfl,rfl⟩:=H;have bF:0≤(aF:Int):=od_;have bG:aF<(l1.length:Int):=od_;obtain⟨bP,cF,bH⟩:=Kd.at_string HR1.out aF bF bG;cases cF;replace bH:=hx_ HB.out bH;replace bF:=eq_true bF;replace bG:=eq_true bG;try go_wp2_with (first|((with_reducible refine gate_callee (f:=35) rfl ?_);refine gb_ (some 32) Tryz.func35 #[.string (rdOf ByteArray.empty l1 aF),.int .i64 2,.int .i64 2] ?_;(with_reducible refine(i7_signs.calls k1 (rdOf ByteArray.empty l1 aF) 2 2 false _ A16.out).mono ?_);rintro e w' ⟨rfl,⟨nd,rfl⟩⟩;refine⟨_,rfl,?_⟩;(try (rw [drewN_self wr];generalize hq_:World.drewN wr _=wr;have n0_:Aside0 (Kd.V Kd.string 9 wr w.heap.size (fun k_=>((P0_3_ k_∨P0_4_ k_)∨w.heap.size≤k_)∧k_≠aE∧k_≠aD) (.slice aJ aC.length aK) aC):=⟨by rw [← hq_];exact(va_ HO_251003)⟩;have n1_:Aside0 (Kd.V k39 39 wr w.heap.size (fun k_=>((P0_3_ k_∨P0_4_ k_)∨w.heap.size≤k_)∧k_≠aE∧k_≠aD) u251004 aL):=⟨by rw [← hq_];exact(va_ HO_251004)⟩;have n2_:Aside0 (wr.heap[aE]?=some (.cells #[.string aG,.string aH,.string aI,.slice aJ aC.length aK,u251004] 25 (0,0))):=⟨by rw [← hq_];exact(bk_ aA)⟩;have n3_:Aside0 (wr.heap[aD]?=some (.cells #[.string aU,.string aV,.string aW,.slice none 0 0,.slice none 0 0] 25 (0,0))):=⟨by rw [← hq_];exact(bk_ aB)⟩;have n4_:Aside0 (Below w.heap.size w wr):=⟨by rw [← hq_];exact hs_⟩;clear HO_251003 HO_251004 aA aB HB hq_;have HO_251003:=n0_;have HO_251004:=n1_;have aA:=n2_;have aB:=n3_;have HB:=n4_;clear n0_ n1_ n2_ n3_ n4_;(try (have hu250_0:wr.cell? ⟨aE,0,none⟩=some (.string aG):=(blk_cell aA.out 0).trans rfl));(try (have hu250_1:wr.cell? ⟨aE,1,none⟩=some (.string aH):=(blk_cell aA.out 1).trans rfl));(try (have hu250_2:wr.cell? ⟨aE,2,none⟩=some (.string aI):=(blk_cell aA.out 2).trans rfl));(try (have hu250_3:wr.cell? ⟨aE,3,none⟩=some (.slice aJ aC.length aK):=(blk_cell aA.out 3).trans rfl));(try (have hu250_4:wr.cell? ⟨aE,4,none⟩=some (u251004):=(blk_cell aA.out 4).trans rfl));(try (have hu251_0:wr.cell? ⟨aD,0,none⟩=some (.string aU):=(blk_cell aB.out 0).trans rfl));(try (have hu251_1:wr.cell? ⟨aD,1,none⟩=some (.string aV):=(blk_cell aB.out 1).trans rfl));(try (have hu251_2:wr.cell? ⟨aD,2,none⟩=some (.string aW):=(blk_cell aB.out 2).trans rfl));(try (have hu251_3:wr.cell? ⟨aD,3,none⟩=some (.slice none 0 0):=(blk_cell aB.out 3).trans rfl));(try (have hu251_4:wr.cell? ⟨aD,4,none⟩=some (.slice none 0 0):=(blk_cell aB.out 4).trans rfl));(try (have hv250_0:=blk_frozen aA.out 0));(try (have hv250_1:=blk_frozen aA.out 1));(try (have hv250_2:=blk_frozen aA.out 2));(try (have hv250_3:=blk_frozen aA.out 3));(try (have hv250_4:=blk_frozen aA.out 4));(try (have hv251_0:=blk_frozen aB.out 0));(try (have hv251_1:=blk_frozen aB.out 1));(try (have hv251_2:=blk_frozen aB.out 2));(try (have hv251_3:=blk_frozen aB.out 3));(try (have hv251_4:=blk_frozen aB.out 4))))))
        replace HO_251003:=ak_ (Kd.V_drew HO_251003.out);replace HO_251004:=ak_ (Kd.V_drew HO_251004.out);replace aA:=ak_ (blk_drew aA.out);replace aB:=ak_ (blk_drew aB.out);replace HB:=ak_ (below_drew1 HB.out);have dA:0≤(aF:Int):=od_;have dB:aF<(l2.length:Int):=od_;obtain⟨eS,eT,bU⟩:=Kd.at_int HR2.out aF dA dB;have bN:=bU;cases eT;replace bU:=hx_ HB.out bU;replace dA:=eq_true dA;replace dB:=eq_true dB;obtain⟨dL,dM,dN⟩:=Kd.V_slice HO_251004.out
        (first|subst dN|(injection dN with f1_ f2_ f3_;have f4_:=f1_.symm;have f5_:=f3_.symm;clear f1_ f2_ f3_;subst f4_;subst f5_))
        refine start_ (n:=8) (S:=fun w'=>w'.cell? ⟨aE,0,none⟩=some (.string aG)∧w'.cell? ⟨aE,1,none⟩=some (.string aH)∧w'.cell? ⟨aE,2,none⟩=some (.string aI)∧w'.cell? ⟨aE,3,none⟩=some (.slice aJ aC.length aK)∧w'.cell? ⟨aE,4,none⟩=some (.slice dL aL.length dM)∧w'.cell? (eS.add (aF).toNat)=some (.int .i64 (rd l2 aF))) (ds:=[]) (bmp 8 0) (by kernel_rfl) rfl rfl ⟨(blk_cell aA.out 0).trans rfl,(blk_cell aA.out 1).trans rfl,(blk_cell aA.out 2).trans rfl,(blk_cell aA.out 3).trans rfl,(blk_cell aA.out 4).trans rfl,(hx_ HB.out bN :)⟩ (fun hHeld=>?_);refine with_tabW i7_keys.tab5 i7_keys.bits5 (fun HT_ HW_=>?_)
        generalize wr.drew=w60 at HO_251003 HO_251004 aA aB HB bU hHeld ⊢;refine pg_ 1 (bm 8 2) HT_ ?_;refine pg_ 2 (bm 8 6) HT_ ?_;refine pg_ 3 (bm 8 14) HT_ ?_;refine tg_ 0 (bmp 8 4) HT_ HW_ hHeld ?_;refine tk_ HT_ HW_ hHeld ?_;refine one_ (i:=5) (N:=none) (bmp 8 6) rfl rfl (one_of HT_.out (by kernel_rfl)) (by decide) (fun K hK=>?_)
        have hs61:w60.cell? ⟨aD,0,none⟩=some (.string aU):=(blk_cell aB.out 0).trans rfl;have hfs61:=blk_frozen aB.out 0;have iU:=aT.out;have iV:=aY.out;have hs62:w60.cell? ⟨aD,1,none⟩=some (.string aV):=(blk_cell aB.out 1).trans rfl;have hfs62:=blk_frozen aB.out 1;have iW:=aT.out;have iX:=aY.out;have hs63:w60.cell? ⟨aD,2,none⟩=some (.string aW):=(blk_cell aB.out 2).trans rfl;have hfs63:=blk_frozen aB.out 2;have iY:=aT.out;have iZ:=aY.out;have hs64:w60.cell? ⟨aD,3,none⟩=some (.slice none 0 0):=(blk_cell aB.out 3).trans rfl;have hfs64:=blk_frozen aB.out 3;have jA:=aT.out;have jB:=aY.out;have hs66:w60.cell? ⟨aD,4,none⟩=some (.slice none 0 0):=(blk_cell aB.out 4).trans rfl;have hfs66:=blk_frozen aB.out 4;have jC:=aT.out;have jD:=aY.out;refine skip_ (w1:=?_) (by rfl) rfl ?_ ?_
        rotate_left
        ·go_simp
         rfl
        refine hK.out _ _ ⟨(cf5_ aT.out (hHeld.1)),(cf5_ aT.out (hHeld.2.1)),(cf5_ aT.out (hHeld.2.2.1)),(cf5_ aT.out (hHeld.2.2.2.1)),(cf5_ aT.out (hHeld.2.2.2.2.1)),(cf5_ (by first|exact Nat.ne_of_lt (Nat.lt_of_lt_of_le (by have:=World.block_lt_of_cell? _ _ bN;first|rwa [add_block] at this|exact this) bO.out)|(rw [add_block];exact Nat.ne_of_lt (Nat.lt_of_lt_of_le (by have:=World.block_lt_of_cell? _ _ bN;first|rwa [add_block] at this|exact this) bO.out))|(show(Addr.add _ _).block≠_;rw [add_block];exact Nat.ne_of_lt (Nat.lt_of_lt_of_le (by have:=World.block_lt_of_cell? _ _ bN;first|rwa [add_block] at this|exact this) bO.out))|(dsimp only;exact Nat.ne_of_lt (Nat.lt_of_lt_of_le (by have:=World.block_lt_of_cell? _ _ bN;first|rwa [add_block] at this|exact this) bO.out))) (hHeld.2.2.2.2.2))⟩ (fun hHeld=>?_)
        clear hK K
        iterate 2 (refine pu_ HT_ ?_)
        refine dg_ HT_ ?_;try go_wp2
        refine bodyPost_ret (results_ctt rfl _ _ aD 25 #[.string aG,.string aH,.string aI,.slice aJ aC.length aK,.slice dL aL.length dM] (0,0) _ rfl (p5_ aB) Tryz.underlying25 rfl (by kernel_rfl)) rfl ?_
        exact⟨_,_,re_,Kd.V_mono (vf5_ HO_251003 (fun _ hk=>hk.2.2)) (fun _ hk=>hk.1.1),Kd.V_mono (vf5_ HO_251004 (fun _ hk=>hk.2.2)) (fun _ hk=>hk.1.1),hs_⟩
       ·rw [if_neg c59] at H
        exact absurd H (by simp)
     ·rw [if_neg c15] at H
      exact absurd H (by simp)
    ·rw [if_neg c14] at H
     have dE:decide (aF<(l1.length:Int))=false:=decide_eq_false c14;clear c14;simp only [Option.some.injEq,Prod.mk.injEq] at H;obtain⟨rfl,rfl,rfl,rfl,rfl,rfl,rfl⟩:=H;have hnb67:=aT.out;have hnc67:=aY.out;obtain⟨jE,jF,jG,jH,jI,jJ,jK,jL,jM,jN⟩:=c5_ aA;obtain⟨jO,jP,jQ,jR,jS,jT,jU,jV,jW,jX⟩:=c5_ aB;obtain⟨eU,eV,eW⟩:=Kd.V_slice HO_251004.out;subst eW
     go_wp2
     refine bodyPost_ret (results_ctt rfl _ _ aD 25 #[.string aG,.string aH,.string aI,.slice aJ aC.length aK,.slice eU aL.length eV] (0,0) _ rfl (p5_ aB) Tryz.underlying25 rfl (by kernel_rfl)) rfl ?_
     exact⟨_,_,re_,Kd.V_mono (vf5_ HO_251003 (fun _ hk=>hk.2.2)) (fun _ hk=>hk.1.1),Kd.V_mono (vf5_ HO_251004 (fun _ hk=>hk.2.2)) (fun _ hk=>hk.1.1),hs_⟩
end Go.Proofs.YtphjhbppjakocaaGreatDoor.PTag
