/- Printed by a program (the kit's print.py with changes of this session) out of Lean's own print of the program: functions of the program as plain Lean functions, and that each call comes to what they say; conditions: those that each theorem states. Not trusted: Lean checks it. -/
import Derived.Test.YtphjhbppjakocaaGreatDoorWInv
import Derived.Test.YtphjhbppjakocaaGreatDoorPl1
import Derived.Test.YtphjhbppjakocaaGreatDoorWN
import Derived.Test.YtphjhbppjakocaaGreatDoorRPut
import Derived.Test.YtphjhbppjakocaaGreatDoorQCopied
import Derived.Test.YtphjhbppjakocaaGreatDoorRKeys
set_option linter.unusedVariables false
set_option linter.unusedSimpArgs false
namespace Go.Proofs.YtphjhbppjakocaaGreatDoor.PTag
open Go.RowKit Go.Proofs.YtphjhbppjakocaaGreatDoorW.PrintWords Go.Proofs.YtphjhbppjakocaaGreatDoorW.PrintLast Go.Proofs.YtphjhbppjakocaaGreatDoorW.PrintMore
attribute [local go_sem] max2_int min2_int max_two min_two max_three min_three max_four min_four
attribute [local go_sem] setCell_drewN_ cell_put_twice_ gtr_less_
mutual
def i7_read.j0:Nat→List ByteArray→List Int→Int→Int→ByteArray→ByteArray→ByteArray→Option (ByteArray×ByteArray×ByteArray×List ByteArray×(List (S39))×Int×Int)
 |0,_,_,_,_,_,_,_=>none
 |k+1,x0,x1,x2,x10,aM,aN,aO=>if x10<(x0.length:Int) then(if 0≤x10 then((i7_script.f k (rdOf ByteArray.empty x0 x10)).bind fun cE=>(i7_read.j1 k x0 x1 x2 x10 cE aM aN aO)) else(none)) else(i7_read.j1 k x0 x1 x2 x10 false aM aN aO)
def i7_read.j1:Nat→List ByteArray→List Int→Int→Int→Bool→ByteArray→ByteArray→ByteArray→Option (ByteArray×ByteArray×ByteArray×List ByteArray×(List (S39))×Int×Int)
 |0,_,_,_,_,_,_,_,_=>none
 |k+1,x0,x1,x2,x10,x40,aM,aN,aO=>if x40=true then(if 0≤x10 then(if x10<(x0.length:Int) then((i7_title.f (rdOf ByteArray.empty x0 x10)).bind fun cF=>(i7_read.j2 k x0 x1 x2 (wrap64 (x10+1)) aM cF aO)) else(none)) else(none)) else(i7_read.j2 k x0 x1 x2 x10 aM aN aO)
def i7_read.j2:Nat→List ByteArray→List Int→Int→Int→ByteArray→ByteArray→ByteArray→Option (ByteArray×ByteArray×ByteArray×List ByteArray×(List (S39))×Int×Int)
 |0,_,_,_,_,_,_,_=>none
 |k+1,x0,x1,x2,x10,aM,aN,aO=>if x10<(x0.length:Int) then(if 0≤x10 then((i7_region.f k (rdOf ByteArray.empty x0 x10)).bind fun cG=>(i7_read.j3 k x0 x1 x2 x10 cG aM aN aO)) else(none)) else(i7_read.j3 k x0 x1 x2 x10 false aM aN aO)
def i7_read.j3:Nat→List ByteArray→List Int→Int→Int→Bool→ByteArray→ByteArray→ByteArray→Option (ByteArray×ByteArray×ByteArray×List ByteArray×(List (S39))×Int×Int)
 |0,_,_,_,_,_,_,_,_=>none
 |k+1,x0,x1,x2,x10,x59,aM,aN,aO=>if x59=true then(if 0≤x10 then(if x10<(x0.length:Int) then((i7_great.f (rdOf ByteArray.empty x0 x10)).bind fun cH=>(i7_read.j4 k x0 x1 x2 (wrap64 (x10+1)) aM aN cH)) else(none)) else(none)) else(i7_read.j4 k x0 x1 x2 x10 aM aN aO)
def i7_read.j4:Nat→List ByteArray→List Int→Int→Int→ByteArray→ByteArray→ByteArray→Option (ByteArray×ByteArray×ByteArray×List ByteArray×(List (S39))×Int×Int)
 |0,_,_,_,_,_,_,_=>none
 |k+1,x0,x1,x2,x10,aM,aN,aO=>i7_read.l0 k x0 x1 x2 x10 aM aN aO ([]:List ByteArray)
def i7_read.l0:Nat→List ByteArray→List Int→Int→Int→ByteArray→ByteArray→ByteArray→List ByteArray→Option (ByteArray×ByteArray×ByteArray×List ByteArray×(List (S39))×Int×Int)
 |0,_,_,_,_,_,_,_,_=>none
 |k+1,x0,x1,x2,x10,aM,aN,aO,bC=>if x10<(x0.length:Int) then(if 0≤x10 then((i7_variant.f k (rdOf ByteArray.empty x0 x10)).bind fun cI=>(i7_read.j6 k x0 x1 x2 x10 cI aM aN aO bC)) else(none)) else(i7_read.j6 k x0 x1 x2 x10 false aM aN aO bC)
def i7_read.j6:Nat→List ByteArray→List Int→Int→Int→Bool→ByteArray→ByteArray→ByteArray→List ByteArray→Option (ByteArray×ByteArray×ByteArray×List ByteArray×(List (S39))×Int×Int)
 |0,_,_,_,_,_,_,_,_,_=>none
 |k+1,x0,x1,x2,x10,x78,aM,aN,aO,bC=>if x78=true then(if 0≤x10 then(if x10<(x0.length:Int) then((i7_Small.f (rdOf ByteArray.empty x0 x10)).bind fun aX=>((i7_put.f k bC aX).bind fun cV=>(if cV.2=true then(if (cV.1.length:Int)>64 then(if x10<(x1.length:Int) then(some (aM,aN,aO,bC,([]:List (S39)),rd x1 x10,5)) else(none)) else(i7_read.l0 k x0 x1 x2 (wrap64 (x10+1)) aM aN aO cV.1)) else(if x10<(x1.length:Int) then(some (aM,aN,aO,bC,([]:List (S39)),rd x1 x10,6)) else(none))))) else(none)) else(none)) else(if x10=(x0.length:Int) then(some (aM,aN,aO,bC,([]:List (S39)),0,0)) else(if 0≤x10 then(if x10<(x0.length:Int) then((i7_Small.f (rdOf ByteArray.empty x0 x10)).bind fun bP=>(if bP.toList=([117]:List UInt8) then((i7_keys.f k aM aN aO bC ([]:List (S39)) x0 x1 (wrap64 (x10+1)) x2).bind fun bG=>(some (bG.1,bG.2.1,bG.2.2.1,bG.2.2.2.1,bG.2.2.2.2.1,bG.2.2.2.2.2.1,bG.2.2.2.2.2.2))) else(if x10<(x1.length:Int) then(some (aM,aN,aO,bC,([]:List (S39)),rd x1 x10,70)) else(none)))) else(none)) else(none)))
end
def i7_read.f (k:Nat) (l0:List ByteArray) (l1:List Int) (a2:Int):Option (ByteArray×ByteArray×ByteArray×List ByteArray×(List (S39))×Int×Int):=if 0<(l0.length:Int) then((i7_lang.f k (rdOf ByteArray.empty l0 0)).bind fun bQ=>(if bQ=true then((i7_Small.f (rdOf ByteArray.empty l0 0)).bind fun bK=>(if bK.toList=([117,110,100]:List UInt8) then(i7_read.j0 k l0 l1 a2 1 (⟨#[]⟩:ByteArray) (⟨#[]⟩:ByteArray) (⟨#[]⟩:ByteArray)) else((i7_Small.f (rdOf ByteArray.empty l0 0)).bind fun bL=>(i7_read.j0 k l0 l1 a2 1 bL (⟨#[]⟩:ByteArray) (⟨#[]⟩:ByteArray))))) else(some ((⟨#[]⟩:ByteArray),(⟨#[]⟩:ByteArray),(⟨#[]⟩:ByteArray),([]:List ByteArray),([]:List (S39)),0,70)))) else(none)
def i7_read.T14:Bool×List (List Nat×List Nat):=(true,[([],[]),([0],[0]),([],[]),([],[]),([2,3],[2,3]),([4],[4]),([5],[5]),([1,6,6],[1,6]),([7],[7]),([8],[8]),([8],[8]),([9,7,0,1,2,3,4,5,6,7,8,9],[9]),([10,11,0,1,2,3,4,5,6,7,8,9,10,11],[10])])
def i7_read.B14:List Nat:=[0,1,0,0,12,28,60,127,255,511,511,1023,4095]
theorem i7_read.tab14:rtab .any (opsOf Tryz.f52 14)=i7_read.T14:=by kernel_rfl
theorem i7_read.bits14:waitsOk i7_read.T14.2 i7_read.B14=true:=by kernel_rfl
def i7_read.T16:Bool×List (List Nat×List Nat):=(true,[([],[]),([],[]),([],[]),([1,2],[1,2]),([3],[3]),([0,0],[0]),([4,5,0,1,2,3,4,5],[4]),([6,0,1,2,3,4,5,6],[])])
def i7_read.B16:List Nat:=[0,0,0,6,14,1,63,127]
theorem i7_read.tab16:rtab .any (opsOf Tryz.f52 16)=i7_read.T16:=by kernel_rfl
theorem i7_read.bits16:waitsOk i7_read.T16.2 i7_read.B16=true:=by kernel_rfl
def i7_read.T18:Bool×List (List Nat×List Nat):=(true,[([],[]),([],[]),([],[]),([1,2],[1,2]),([3],[3]),([0,0],[0]),([4,5,0,1,2,3,4,5],[4]),([6,0,1,2,3,4,5,6],[])])
def i7_read.B18:List Nat:=[0,0,0,6,14,1,63,127]
theorem i7_read.tab18:rtab .any (opsOf Tryz.f52 18)=i7_read.T18:=by kernel_rfl
theorem i7_read.bits18:waitsOk i7_read.T18.2 i7_read.B18=true:=by kernel_rfl
def i7_read.T23:Bool×List (List Nat×List Nat):=(true,[([],[]),([],[]),([],[]),([1,2],[1,2]),([3],[3]),([0,0],[0]),([4,5,0,1,2,3,4,5],[4]),([6,0,1,2,3,4,5,6],[])])
def i7_read.B23:List Nat:=[0,0,0,6,14,1,63,127]
theorem i7_read.tab23:rtab .any (opsOf Tryz.f52 23)=i7_read.T23:=by kernel_rfl
theorem i7_read.bits23:waitsOk i7_read.T23.2 i7_read.B23=true:=by kernel_rfl
set_option maxHeartbeats 8000000 in
set_option maxRecDepth 100000 in
theorem i7_read.calls (k:Nat) (A0:Option Addr) (c0:Nat) (l0:List ByteArray) (A1:Option Addr) (c1:Nat) (l1:List Int) (a2:Int) (r1:ByteArray) (r2:ByteArray) (r3:ByteArray) (r4:List ByteArray) (r5:List (S39)) (r6:Int) (r7:Int) (w:World) (hr0:Kd.C Kd.string w A0 l0.length l0) (hc0:l0.length≤c0) (hr1:Kd.C (Kd.int .i64) w A1 l1.length l1) (hc1:l1.length≤c1) (h:i7_read.f k l0 l1 a2=some (r1,r2,r3,r4,r5,r6,r7)):
 Calls Tryz.prog 52 #[.slice A0 l0.length c0,.slice A1 l1.length c1,.int .i64 a2] w fun e w'=>∃ v3_ v4_:Value,e=.returned (.tuple #[.agg #[.string r1,.string r2,.string r3,v3_,v4_],.int .i64 r6,.int .i64 r7])∧Kd.V Kd.string 9 w' w.heap.size (fun k_=>(w.heap.size≤k_)) v3_ r4∧Kd.V k39 39 w' w.heap.size (fun k_=>(w.heap.size≤k_)) v4_ r5∧Below w.heap.size w w':=by
 have hu25:=Tryz.underlying25;have HR0:=ak_ hr0;have HC0:=ak_ hc0;clear hr0 hc0;have HR1:=ak_ hr1;have HC1:=ak_ hc1;clear hr1 hc1;have HB:=ak_ (Below.refl w.heap.size w);have H:(if 0<(l0.length:Int) then((i7_lang.f k (rdOf ByteArray.empty l0 0)).bind fun bQ=>(if bQ=true then((i7_Small.f (rdOf ByteArray.empty l0 0)).bind fun bK=>(if bK.toList=([117,110,100]:List UInt8) then(i7_read.j0 k l0 l1 a2 1 (⟨#[]⟩:ByteArray) (⟨#[]⟩:ByteArray) (⟨#[]⟩:ByteArray)) else((i7_Small.f (rdOf ByteArray.empty l0 0)).bind fun bL=>(i7_read.j0 k l0 l1 a2 1 bL (⟨#[]⟩:ByteArray) (⟨#[]⟩:ByteArray))))) else(some ((⟨#[]⟩:ByteArray),(⟨#[]⟩:ByteArray),(⟨#[]⟩:ByteArray),([]:List ByteArray),([]:List (S39)),0,70)))) else(none))=some (r1,r2,r3,r4,r5,r6,r7):=h;clear h;by_cases c4:0<(l0.length:Int)
 ·rw [if_pos c4] at H
  have fH:decide (0<(l0.length:Int))=true:=decide_eq_true c4;have fI:decide (0<l0.length)=true:=decide_eq_true (by omega)
  clear c4;replace H:=Option.bind_eq_some_iff.mp H;obtain⟨bQ,A50,H⟩:=H;try dsimp only at H
  have A5:=ak_ A50;clear A50;by_cases c6:bQ=true
  ·subst c6
   replace H:=it_ H;replace H:=Option.bind_eq_some_iff.mp H;obtain⟨bK,A70,H⟩:=H;try dsimp only at H
   have A7:=ak_ A70;clear A70;have HC8:=ak_ H;clear H
   go_enter Tryz.func52,Tryz.ntmps52
   go_upto_if 24 with (first|((with_reducible refine gate_dst (N:=6) rfl ?_);refine bx_ 6 #[.string ⟨#[]⟩,.string ⟨#[]⟩,.string ⟨#[]⟩,.slice none 0 0,.slice none 0 0] 25 ?_;intro aE hg w9 hbox hb;have aB:=ak_ (hbox);have aT:=ak_ (gw_ hg);have fJ:=ak_ (gw_ hg);replace HB:=ak_ (below_step hb_ hb);clear hb hbox hg)|((with_reducible refine gate_dst (N:=9) rfl ?_);refine bx_ 9 #[.string ⟨#[]⟩,.string ⟨#[]⟩,.string ⟨#[]⟩,.slice none 0 0,.slice none 0 0] 25 ?_;intro aD hg w10 hbox hb;have aA:=ak_ (hbox);have cJ:=ak_ (gw_ hg);have fK:=ak_ (gw_ hg);replace HB:=ak_ (below_step hs_ hb);have aG:=ak_ (nl_ aB hg);have aF:=ak_ (ng_ aB hg);replace aB:=ak_ (bb_ aB hb);clear hb hbox hg;have hnb11:=aF.out;have hnc11:=aG.out;obtain⟨fL,fM,fN,fO,fP,fQ,fR,fS,fT,fU⟩:=c5_ aA;have bE:0≤(0:Int):=(by omega);have bF:0<(l0.length:Int):=od_;obtain⟨aP,cW,aR⟩:=Kd.at_string HR0.out 0 bE bF;cases cW;have qi268:(0<l0.length)=True:=eq_true (by omega);(try rw [show ((0:Int)).toNat=0 from rfl] at aR);(try rw [Addr.add_zero'] at aR);have hn268_0:aP.block≠aD:=Nat.ne_of_lt (Nat.lt_of_lt_of_le (by have:=World.block_lt_of_cell? _ _ aR;first|rwa [add_block] at this|exact this) cJ.out);replace aR:=hx_ HB.out aR;replace aR:=cf5x_ (.string ⟨#[]⟩) (.string ⟨#[]⟩) (.string ⟨#[]⟩) (.slice none 0 0) (.slice none 0 0) (by first|exact fb_ hn268_0|exact hn268_0) aR;clear hn268_0;replace bE:=eq_true bE;replace bF:=eq_true bF)|((with_reducible refine gate_callee (f:=28) rfl ?_);refine gb_ (some 17) Tryz.func28 #[.string (rdOf ByteArray.empty l0 0)] ?_;(with_reducible refine(i7_lang.calls k (rdOf ByteArray.empty l0 0) true _ A5.out).mono ?_);rintro e w' ⟨rfl,⟨nd,rfl⟩⟩;refine⟨_,rfl,?_⟩;have cK:0≤(0:Int):=(by omega);have cL:0<(l0.length:Int):=od_;obtain⟨fV,fW,bD⟩:=Kd.at_string HR0.out 0 cK cL;obtain rfl:aP=fV:=(by injection fW);have qi270:(0<l0.length)=True:=eq_true (by omega);(try rw [show ((0:Int)).toNat=0 from rfl] at bD);(try rw [Addr.add_zero'] at bD);have hn270_0:aP.block≠aD:=Nat.ne_of_lt (Nat.lt_of_lt_of_le (by have:=World.block_lt_of_cell? _ _ bD;first|rwa [add_block] at this|exact this) cJ.out);replace bD:=hx_ HB.out bD;replace bD:=cf5x_ (.string ⟨#[]⟩) (.string ⟨#[]⟩) (.string ⟨#[]⟩) (.slice none 0 0) (.slice none 0 0) (by first|exact fb_ hn270_0|exact hn270_0) bD;clear hn270_0;replace cK:=eq_true cK;replace cL:=eq_true cL)|((with_reducible refine gate_callee (f:=29) rfl ?_);refine gb_ (some 23) Tryz.func29 #[.string (rdOf ByteArray.empty l0 0)] ?_;(with_reducible refine(i7_Small.calls (rdOf ByteArray.empty l0 0) bK _ A7.out).mono ?_);rintro e w13 ⟨rfl,hb⟩;refine⟨_,rfl,?_⟩;replace aB:=ak_ (blk_below (g:=aE) (o:=.cells #[.string ⟨#[]⟩,.string ⟨#[]⟩,.string ⟨#[]⟩,.slice none 0 0,.slice none 0 0] 25 (0,0)) (by(with_reducible repeat (first|refine blk_drewN ?_ _|refine blk_drew ?_|refine blk_alloc ?_ _));refine blk_far ?_ aG.out _;(with_reducible repeat (first|refine blk_drewN ?_ _|refine blk_drew ?_|refine blk_alloc ?_ _));refine blk_far ?_ aG.out _;(with_reducible repeat (first|refine blk_drewN ?_ _|refine blk_drew ?_|refine blk_alloc ?_ _));refine blk_far ?_ aG.out _;(with_reducible repeat (first|refine blk_drewN ?_ _|refine blk_drew ?_|refine blk_alloc ?_ _));refine blk_far ?_ aG.out _;(with_reducible repeat (first|refine blk_drewN ?_ _|refine blk_drew ?_|refine blk_alloc ?_ _));refine blk_far ?_ aG.out _;(with_reducible repeat (first|refine blk_drewN ?_ _|refine blk_drew ?_|refine blk_alloc ?_ _));exact aB.out) hb);replace aA:=ak_ (blk_below (g:=aD) (o:=.cells #[.string ⟨#[]⟩,.string ⟨#[]⟩,.string ⟨#[]⟩,.slice none 0 0,.slice none 0 0] 25 (0,0)) (p5_ aA) hb);replace HB:=ak_ (below_step hs_ hb);try clear hb))
   (try simp only [Act.put,List.setIfInBounds_toArray,List.set_cons_zero,List.set_cons_succ])
   go_cut [] (fun wc=>∃ (kq:Nat) (aH:ByteArray),Aside0 (i7_read.j0 kq l0 l1 a2 1 aH (⟨#[]⟩:ByteArray) (⟨#[]⟩:ByteArray)=some (r1,r2,r3,r4,r5,r6,r7))∧Aside0 (kq≤k)∧Aside0 (wc.heap[aE]?=some (.cells #[.string ⟨#[]⟩,.string ⟨#[]⟩,.string ⟨#[]⟩,(.slice none 0 0),(.slice none 0 0)] 25 (0,0)))∧Aside0 (wc.heap[aD]?=some (.cells #[.string aH,.string ⟨#[]⟩,.string ⟨#[]⟩,(.slice none 0 0),(.slice none 0 0)] 25 (0,0)))∧Aside0 (Below w.heap.size w wc))
   case first=>
    have H:=HC8.out;clear HC8;by_cases c14:bK.toList=([117,110,100]:List UInt8)
    ·rw [if_pos c14] at H
     obtain⟨bR,cX⟩:=eq2_ c14;clear c14
     (first|rw [bR]|rw [cX]|rw [fX]|(simp only [i64_w,i32_w];rw [bR])|skip)
     (try simp only [Bool.not_true,Bool.not_false])
     have H':=ak_ H;clear H
     go_wp2
     go_meet
     case rel=>exact ⟨_,((⟨#[]⟩:ByteArray)),H',⟨by first|omega|exact Nat.le_refl _⟩,⟨bk_ aB⟩,⟨bk_ aA⟩,⟨hs_⟩⟩
    ·rw [if_neg c14] at H
     obtain⟨bR,cX⟩:=ne2_ c14
     (first|rw [bR]|rw [cX]|rw [fX]|(simp only [i64_w,i32_w];rw [bR])|skip)
     (try simp only [Bool.not_true,Bool.not_false])
     replace H:=Option.bind_eq_some_iff.mp H;obtain⟨bL,eF,H⟩:=H;try dsimp only at H
     have A15:=ak_ eF;clear eF;have H':=ak_ H;clear H;have cY:0≤(0:Int):=(by omega)
     have cZ:0<(l0.length:Int):=od_;obtain⟨fY,fZ,bS⟩:=Kd.at_string HR0.out 0 cY cZ;obtain rfl:aP=fY:=(by injection fZ)
     have qi272:(0<l0.length)=True:=eq_true (by omega)
     (try rw [show ((0:Int)).toNat=0 from rfl] at bS)
     (try rw [Addr.add_zero'] at bS)
     replace bS:=hx_ HB.out bS;replace cY:=eq_true cY;replace cZ:=eq_true cZ
     go_wp2_with (first|((with_reducible refine gate_callee (f:=29) rfl ?_);refine gb_ (some 28) Tryz.func29 #[.string (rdOf ByteArray.empty l0 0)] ?_;(with_reducible refine(i7_Small.calls (rdOf ByteArray.empty l0 0) bL _ A15.out).mono ?_);rintro e w16 ⟨rfl,hb⟩;refine⟨_,rfl,?_⟩;replace aB:=ak_ (bb_ aB hb);replace aA:=ak_ (bb_ aA hb);replace HB:=ak_ (below_step hs_ hb);try clear hb;have hnb17:=aF.out;have hnc17:=aG.out;obtain⟨hS,hT,hU,hV,hW,hX,hY,hZ,iA,iB⟩:=c5_ aA))
     go_meet
     case rel=>exact ⟨_,(bL),H',⟨by first|omega|exact Nat.le_refl _⟩,⟨by(with_reducible repeat (first|refine blk_drewN ?_ _|refine blk_drew ?_|refine blk_alloc ?_ _));refine blk_far ?_ aG.out _;(with_reducible repeat (first|refine blk_drewN ?_ _|refine blk_drew ?_|refine blk_alloc ?_ _));exact aB.out⟩,⟨by(with_reducible repeat (first|refine blk_drewN ?_ _|refine blk_drew ?_|refine blk_alloc ?_ _));refine blk_put (cs:=#[.string ⟨#[]⟩,.string ⟨#[]⟩,.string ⟨#[]⟩,.slice none 0 0,.slice none 0 0]) ?_ 0 _ rfl;(with_reducible repeat (first|refine blk_drewN ?_ _|refine blk_drew ?_|refine blk_alloc ?_ _));exact aA.out⟩,⟨hs_⟩⟩
   case rest =>
    clear HC8;clear fH fI fL fM fN fO fP fQ fR fS fT fU aR bD bE cK bF cL;obtain⟨kq,aH,HA,HJ7,aB,aA,HB⟩:=hcut;cases kq with
    |zero=>exact absurd HA.out (by simp [i7_read.j0])
    | succ kj7 =>
     have H:=HA.out;clear HA;simp only [i7_read.j0] at H;have dA:=ak_ H;clear H
     go_upto_region 6 with (fail)
     go_cut [40] (fun v40 wc=>∃ (kq:Nat) (cM:Bool),v40=.bool cM∧Aside0 (i7_read.j1 kq l0 l1 a2 1 cM aH (⟨#[]⟩:ByteArray) (⟨#[]⟩:ByteArray)=some (r1,r2,r3,r4,r5,r6,r7))∧Aside0 (kq≤kj7)∧Aside0 (wc.heap[aE]?=some (.cells #[.string ⟨#[]⟩,.string ⟨#[]⟩,.string ⟨#[]⟩,(.slice none 0 0),(.slice none 0 0)] 25 (0,0)))∧Aside0 (wc.heap[aD]?=some (.cells #[.string aH,.string ⟨#[]⟩,.string ⟨#[]⟩,(.slice none 0 0),(.slice none 0 0)] 25 (0,0)))∧Aside0 (Below w.heap.size w wc))
     case first=>
      have H:=dA.out;clear dA;by_cases c20:1<(l0.length:Int)
      ·rw [if_pos c20] at H
       have bT:decide (1<(l0.length:Int))=true:=decide_eq_true c20;have dB:decide (1<l0.length)=true:=decide_eq_true (by omega)
       clear c20
       (first|rw [bT]|rw [dB]|rw [gA]|(simp only [i64_w,i32_w];rw [bT])|skip)
       (try simp only [Bool.not_true,Bool.not_false])
       by_cases c21:(0:Int)≤1
       ·rw [if_pos c21] at H
        have c21b0:decide ((0:Int)≤1)=true:=decide_eq_true c21;clear c21;replace H:=Option.bind_eq_some_iff.mp H;obtain⟨cE,eG,H⟩:=H;try dsimp only at H
        have A22:=ak_ eG;clear eG;have H':=ak_ H;clear H;have dC:0≤(1:Int):=(by omega)
        have dD:1<(l0.length:Int):=od_;obtain⟨gB,gC,bU⟩:=Kd.at_string HR0.out 1 dC dD;obtain rfl:aP=gB:=(by injection gC)
        (try simp only [show (1:Int).toNat=1 from rfl,Nat.reduceMul,Nat.reduceEqDiff,Go.Addr.add,↓reduceIte] at bU)
        have qi274:(1<l0.length)=True:=eq_true (by omega)
        (try rw [show ((1:Int)).toNat=1 from rfl] at bU)
        replace bU:=hx_ HB.out bU;replace dC:=eq_true dC;replace dD:=eq_true dD
        go_wp2_with (first|(go_at_call 30;(with_reducible refine(i7_script.calls kj7 (rdOf ByteArray.empty l0 1) cE _ A22.out).mono ?_);rintro e w' ⟨rfl,⟨nd,rfl⟩⟩))
        go_meet
        case rel=>exact ⟨_,(cE),(by first|rfl|(simp;done)|exact congrArg (Value.int .i64) (by unfold wrap64;omega)|(simp [*];done)),H',⟨by have:=HJ7.out;first|omega|exact Nat.le_refl _⟩,⟨bk_ aB⟩,⟨bk_ aA⟩,⟨hs_⟩⟩
       ·rw [if_neg c21] at H
        exact absurd H (by simp)
      ·rw [if_neg c20] at H
       have bT:decide (1<(l0.length:Int))=false:=decide_eq_false c20;have dB:decide (1<l0.length)=false:=decide_eq_false (by omega)
       clear c20
       (first|rw [bT]|rw [dB]|rw [gA]|(simp only [i64_w,i32_w];rw [bT])|skip)
       (try simp only [Bool.not_true,Bool.not_false])
       have H':=ak_ H;clear H
       go_wp2
       go_meet
       case rel=>exact ⟨_,(false),(by first|rfl|(simp;done)|exact congrArg (Value.int .i64) (by unfold wrap64;omega)|(simp [*];done)),H',⟨by have:=HJ7.out;first|omega|exact Nat.le_refl _⟩,⟨bk_ aB⟩,⟨bk_ aA⟩,⟨hs_⟩⟩
     case rest =>
      clear dA;obtain⟨kq,cM,rfl,HA,HJ18,aB,aA,HB⟩:=hcut;cases kq with
      |zero=>exact absurd HA.out (by simp [i7_read.j1])
      | succ kj18 =>
       have H:=HA.out;clear HA;simp only [i7_read.j1] at H;have dE:=ak_ H;clear H
       go_upto_if 40 with (fail)
       go_cut [10] (fun v10 wc=>∃ (kq:Nat) (aL:Int) (aI:ByteArray),v10=.int .i64 aL∧Aside0 (i7_read.j2 kq l0 l1 a2 aL aH aI (⟨#[]⟩:ByteArray)=some (r1,r2,r3,r4,r5,r6,r7))∧Aside0 (kq≤kj18)∧Aside0 (wc.heap[aE]?=some (.cells #[.string ⟨#[]⟩,.string ⟨#[]⟩,.string ⟨#[]⟩,(.slice none 0 0),(.slice none 0 0)] 25 (0,0)))∧Aside0 (wc.heap[aD]?=some (.cells #[.string aH,.string aI,.string ⟨#[]⟩,(.slice none 0 0),(.slice none 0 0)] 25 (0,0)))∧Aside0 (Below w.heap.size w wc))
       case first=>
        have H:=dE.out;clear dE;by_cases c24:cM=true
        ·subst c24
         replace H:=it_ H;by_cases c25:(0:Int)≤1
         ·rw [if_pos c25] at H
          have eH:decide ((0:Int)≤1)=true:=decide_eq_true c25;clear c25
          (first|rw [eH]|rw [c25b1]|rw [c25b2]|(simp only [i64_w,i32_w];rw [eH])|skip)
          (try simp only [Bool.not_true,Bool.not_false])
          by_cases c26:1<(l0.length:Int)
          ·rw [if_pos c26] at H
           have c26b0:decide (1<(l0.length:Int))=true:=decide_eq_true c26;have c26b1:decide (1<l0.length)=true:=decide_eq_true (by omega)
           clear c26;replace H:=Option.bind_eq_some_iff.mp H;obtain⟨cF,eI,H⟩:=H;try dsimp only at H
           have A27:=ak_ eI;clear eI;have H':=ak_ H;clear H;have dF:0≤(1:Int):=(by omega)
           have dG:1<(l0.length:Int):=od_;obtain⟨gD,gE,bV⟩:=Kd.at_string HR0.out 1 dF dG;obtain rfl:aP=gD:=(by injection gE)
           (try simp only [show (1:Int).toNat=1 from rfl,Nat.reduceMul,Nat.reduceEqDiff,Go.Addr.add,↓reduceIte] at bV)
           have qi276:(1<l0.length)=True:=eq_true (by omega)
           (try rw [show ((1:Int)).toNat=1 from rfl] at bV)
           replace bV:=hx_ HB.out bV;replace dF:=eq_true dF;replace dG:=eq_true dG
           go_wp2_with (first|((with_reducible refine gate_callee (f:=31) rfl ?_);refine gb_ (some 45) Tryz.func31 #[.string (rdOf ByteArray.empty l0 1)] ?_;(with_reducible refine(i7_title.calls (rdOf ByteArray.empty l0 1) cF _ A27.out).mono ?_);rintro e w28 ⟨rfl,hb⟩;refine⟨_,rfl,?_⟩;replace aB:=ak_ (bb_ aB hb);replace aA:=ak_ (bb_ aA hb);replace HB:=ak_ (below_step hs_ hb);try clear hb;have hnb29:=aF.out;have hnc29:=aG.out;obtain⟨iC,iD,iE,iF,iG,iH,iI,iJ,iK,iL⟩:=c5_ aA))
           go_meet
           case rel=>exact ⟨_,(wrap64 (1+1)),(cF),(by first|rfl|(simp;done)|exact congrArg (Value.int .i64) (by unfold wrap64;omega)|(simp [*];done)),H',⟨by have:=HJ7.out;have:=HJ18.out;first|omega|exact Nat.le_refl _⟩,⟨by(with_reducible repeat (first|refine blk_drewN ?_ _|refine blk_drew ?_|refine blk_alloc ?_ _));refine blk_far ?_ aG.out _;(with_reducible repeat (first|refine blk_drewN ?_ _|refine blk_drew ?_|refine blk_alloc ?_ _));exact aB.out⟩,⟨by(with_reducible repeat (first|refine blk_drewN ?_ _|refine blk_drew ?_|refine blk_alloc ?_ _));refine blk_put (cs:=#[.string aH,.string ⟨#[]⟩,.string ⟨#[]⟩,.slice none 0 0,.slice none 0 0]) ?_ 1 _ rfl;(with_reducible repeat (first|refine blk_drewN ?_ _|refine blk_drew ?_|refine blk_alloc ?_ _));exact aA.out⟩,⟨hs_⟩⟩
          ·rw [if_neg c26] at H
           exact absurd H (by simp)
         ·rw [if_neg c25] at H
          exact absurd H (by simp)
        ·replace c24:=Bool.eq_false_iff.mpr c24
         subst c24;replace H:=if_f_ H;have H':=ak_ H;clear H
         go_wp2
         go_meet
         case rel=>exact ⟨_,(1),((⟨#[]⟩:ByteArray)),(by first|rfl|(simp;done)|exact congrArg (Value.int .i64) (by unfold wrap64;omega)|(simp [*];done)),H',⟨by have:=HJ7.out;have:=HJ18.out;first|omega|exact Nat.le_refl _⟩,⟨bk_ aB⟩,⟨bk_ aA⟩,⟨hs_⟩⟩
       case rest =>
        clear dE;obtain⟨kq,aL,aI,rfl,HA,HJ22,aB,aA,HB⟩:=hcut;cases kq with
        |zero=>exact absurd HA.out (by simp [i7_read.j2])
        | succ kj22 =>
         have H:=HA.out;clear HA;simp only [i7_read.j2] at H;have dH:=ak_ H;clear H
         go_upto_region 9 with (fail)
         go_cut [59] (fun v59 wc=>∃ (kq:Nat) (cN:Bool),v59=.bool cN∧Aside0 (i7_read.j3 kq l0 l1 a2 aL cN aH aI (⟨#[]⟩:ByteArray)=some (r1,r2,r3,r4,r5,r6,r7))∧Aside0 (kq≤kj22)∧Aside0 (wc.heap[aE]?=some (.cells #[.string ⟨#[]⟩,.string ⟨#[]⟩,.string ⟨#[]⟩,(.slice none 0 0),(.slice none 0 0)] 25 (0,0)))∧Aside0 (wc.heap[aD]?=some (.cells #[.string aH,.string aI,.string ⟨#[]⟩,(.slice none 0 0),(.slice none 0 0)] 25 (0,0)))∧Aside0 (Below w.heap.size w wc))
         case first=>
          have H:=dH.out;clear dH;by_cases c32:aL<(l0.length:Int)
          ·rw [if_pos c32] at H
           have bW:decide (aL<(l0.length:Int))=true:=decide_eq_true c32;clear c32
           (first|rw [bW]|rw [gF]|rw [gG]|(simp only [i64_w,i32_w];rw [bW])|skip)
           (try simp only [Bool.not_true,Bool.not_false])
           by_cases c33:0≤aL
           ·rw [if_pos c33] at H
            have c33b0:decide (0≤aL)=true:=decide_eq_true c33;clear c33;replace H:=Option.bind_eq_some_iff.mp H;obtain⟨cG,eJ,H⟩:=H;try dsimp only at H
            have A34:=ak_ eJ;clear eJ;have H':=ak_ H;clear H;have dI:0≤(aL:Int):=od_;have dJ:aL<(l0.length:Int):=od_;obtain⟨gH,gI,dK⟩:=Kd.at_string HR0.out aL dI dJ;obtain rfl:aP=gH:=(by injection gI)
            replace dK:=hx_ HB.out dK;replace dI:=eq_true dI;replace dJ:=eq_true dJ
            go_wp2_with (first|(go_at_call 32;(with_reducible refine(i7_region.calls kj22 (rdOf ByteArray.empty l0 aL) cG _ A34.out).mono ?_);rintro e w' ⟨rfl,⟨nd,rfl⟩⟩))
            go_meet
            case rel=>exact ⟨_,(cG),(by first|rfl|(simp;done)|exact congrArg (Value.int .i64) (by unfold wrap64;omega)|(simp [*];done)),H',⟨by have:=HJ7.out;have:=HJ18.out;have:=HJ22.out;first|omega|exact Nat.le_refl _⟩,⟨bk_ aB⟩,⟨bk_ aA⟩,⟨hs_⟩⟩
           ·rw [if_neg c33] at H
            exact absurd H (by simp)
          ·rw [if_neg c32] at H
           have bW:decide (aL<(l0.length:Int))=false:=decide_eq_false c32;clear c32
           (first|rw [bW]|rw [gF]|rw [gG]|(simp only [i64_w,i32_w];rw [bW])|skip)
           (try simp only [Bool.not_true,Bool.not_false])
           have H':=ak_ H;clear H
           go_wp2
           go_meet
           case rel=>exact ⟨_,(false),(by first|rfl|(simp;done)|exact congrArg (Value.int .i64) (by unfold wrap64;omega)|(simp [*];done)),H',⟨by have:=HJ7.out;have:=HJ18.out;have:=HJ22.out;first|omega|exact Nat.le_refl _⟩,⟨bk_ aB⟩,⟨bk_ aA⟩,⟨hs_⟩⟩
         case rest =>
          clear dH;obtain⟨kq,cN,rfl,HA,HJ30,aB,aA,HB⟩:=hcut;cases kq with
          |zero=>exact absurd HA.out (by simp [i7_read.j3])
          | succ kj30 =>
           have H:=HA.out;clear HA;simp only [i7_read.j3] at H;have dL:=ak_ H;clear H
           go_upto_if 59 with (fail)
           go_cut [10] (fun v10 wc=>∃ (kq:Nat) (cO:Int) (aK:ByteArray),v10=.int .i64 cO∧Aside0 (i7_read.j4 kq l0 l1 a2 cO aH aI aK=some (r1,r2,r3,r4,r5,r6,r7))∧Aside0 (kq≤kj30)∧Aside0 (wc.heap[aE]?=some (.cells #[.string ⟨#[]⟩,.string ⟨#[]⟩,.string ⟨#[]⟩,(.slice none 0 0),(.slice none 0 0)] 25 (0,0)))∧Aside0 (wc.heap[aD]?=some (.cells #[.string aH,.string aI,.string aK,(.slice none 0 0),(.slice none 0 0)] 25 (0,0)))∧Aside0 (Below w.heap.size w wc))
           case first=>
            have H:=dL.out;clear dL;by_cases c36:cN=true
            ·subst c36
             replace H:=it_ H;by_cases c37:0≤aL
             ·rw [if_pos c37] at H
              have eK:decide (0≤aL)=true:=decide_eq_true c37;clear c37
              (first|rw [eK]|rw [c37b1]|rw [c37b2]|(simp only [i64_w,i32_w];rw [eK])|skip)
              (try simp only [Bool.not_true,Bool.not_false])
              by_cases c38:aL<(l0.length:Int)
              ·rw [if_pos c38] at H
               have c38b0:decide (aL<(l0.length:Int))=true:=decide_eq_true c38;clear c38;replace H:=Option.bind_eq_some_iff.mp H;obtain⟨cH,eL,H⟩:=H;try dsimp only at H
               have A39:=ak_ eL;clear eL;have H':=ak_ H;clear H;have dM:0≤(aL:Int):=od_;have dN:aL<(l0.length:Int):=od_;obtain⟨gJ,gK,dO⟩:=Kd.at_string HR0.out aL dM dN;obtain rfl:aP=gJ:=(by injection gK)
               replace dO:=hx_ HB.out dO;replace dM:=eq_true dM;replace dN:=eq_true dN
               go_wp2_with (first|((with_reducible refine gate_callee (f:=33) rfl ?_);refine gb_ (some 64) Tryz.func33 #[.string (rdOf ByteArray.empty l0 aL)] ?_;(with_reducible refine(i7_great.calls (rdOf ByteArray.empty l0 aL) cH _ A39.out).mono ?_);rintro e w40 ⟨rfl,hb⟩;refine⟨_,rfl,?_⟩;replace aB:=ak_ (bb_ aB hb);replace aA:=ak_ (bb_ aA hb);replace HB:=ak_ (below_step hs_ hb);try clear hb;have hnb41:=aF.out;have hnc41:=aG.out;obtain⟨iM,iN,iO,iP,iQ,iR,iS,iT,iU,iV⟩:=c5_ aA))
               go_meet
               case rel=>exact ⟨_,(wrap64 (aL+1)),(cH),(by first|rfl|(simp;done)|exact congrArg (Value.int .i64) (by unfold wrap64;omega)|(simp [*];done)),H',⟨by have:=HJ7.out;have:=HJ18.out;have:=HJ22.out;have:=HJ30.out;first|omega|exact Nat.le_refl _⟩,⟨by(with_reducible repeat (first|refine blk_drewN ?_ _|refine blk_drew ?_|refine blk_alloc ?_ _));refine blk_far ?_ aG.out _;(with_reducible repeat (first|refine blk_drewN ?_ _|refine blk_drew ?_|refine blk_alloc ?_ _));exact aB.out⟩,⟨by(with_reducible repeat (first|refine blk_drewN ?_ _|refine blk_drew ?_|refine blk_alloc ?_ _));refine blk_put (cs:=#[.string aH,.string aI,.string ⟨#[]⟩,.slice none 0 0,.slice none 0 0]) ?_ 2 _ rfl;(with_reducible repeat (first|refine blk_drewN ?_ _|refine blk_drew ?_|refine blk_alloc ?_ _));exact aA.out⟩,⟨hs_⟩⟩
              ·rw [if_neg c38] at H
               exact absurd H (by simp)
             ·rw [if_neg c37] at H
              exact absurd H (by simp)
            ·replace c36:=Bool.eq_false_iff.mpr c36
             subst c36;replace H:=if_f_ H;have H':=ak_ H;clear H
             go_wp2
             go_meet
             case rel=>exact ⟨_,(aL),((⟨#[]⟩:ByteArray)),(by first|rfl|(simp;done)|exact congrArg (Value.int .i64) (by unfold wrap64;omega)|(simp [*];done)),H',⟨by have:=HJ7.out;have:=HJ18.out;have:=HJ22.out;have:=HJ30.out;first|omega|exact Nat.le_refl _⟩,⟨bk_ aB⟩,⟨bk_ aA⟩,⟨hs_⟩⟩
           case rest =>
            clear dL;obtain⟨kq,cO,aK,rfl,HA,HJ34,aB,aA,HB⟩:=hcut;cases kq with
            |zero=>exact absurd HA.out (by simp [i7_read.j4])
            | succ kj34 =>
             have H:=HA.out;clear HA;simp only [i7_read.j4] at H;have H':=ak_ H;clear H
             go_wp2
             go_loopg [10] kj34 (fun kq v10 w'=>∃ (aC:Int) (aU:ByteArray) (aV:ByteArray) (aW:ByteArray) (aJ:List ByteArray) (u268003:Value),v10=.int .i64 aC∧Aside0 (i7_read.l0 kq l0 l1 a2 aC aH aI aK aJ=some (r1,r2,r3,r4,r5,r6,r7))∧Aside0 (kq≤kj34)∧Aside0 (Kd.V Kd.string 9 w' w.heap.size (fun k_=>(w.heap.size≤k_)∧k_≠aE∧k_≠aD) u268003 aJ)∧Aside0 (w'.heap[aE]?=some (.cells #[.string aU,.string aV,.string aW,(.slice none 0 0),(.slice none 0 0)] 25 (0,0)))∧Aside0 (w'.heap[aD]?=some (.cells #[.string aH,.string aI,.string aK,u268003,(.slice none 0 0)] 25 (0,0)))∧Aside0 (Below w.heap.size w w'))
             case atStart=>exact ⟨(cO),((⟨#[]⟩:ByteArray)),((⟨#[]⟩:ByteArray)),((⟨#[]⟩:ByteArray)),(([]:List ByteArray)),(.slice none 0 0),(by first|rfl|(simp;done)|exact congrArg (Value.int .i64) (by unfold wrap64;omega)|(simp [*];done)),H',⟨Nat.le_refl _⟩,⟨Kd.R_V (base:=w.heap.size) (by first|exact Kd.R_nil _ _ _ _ _|exact Kd.N_nil _ _ _ _ _|exact Kd.V_nil _ _ _ _ _|exact Kd.Q_nil _ _ _ _ _|exact Kd.S_nil _ _ _ _ _)⟩,⟨bk_ aB⟩,⟨bk_ aA⟩,⟨hs_⟩⟩
             case round =>
              clear H';obtain⟨aC,aU,aV,aW,aJ,u268003,rfl,HA,HK6,HO_268003,aB,aA,HB⟩:=hrel;cases gk with
              |zero=>exact absurd HA.out (by simp [i7_read.l0])
              | succ k6 =>
               have H:=HA.out;clear HA;simp only [i7_read.l0] at H;have dP:=ak_ H;clear H
               go_upto_region 12 with (fail)
               go_cut [78] (fun v78 wc=>∃ (kq:Nat) (cP:Bool),v78=.bool cP∧Aside0 (i7_read.j6 kq l0 l1 a2 aC cP aH aI aK aJ=some (r1,r2,r3,r4,r5,r6,r7))∧Aside0 (kq≤k6)∧Aside0 (Kd.V Kd.string 9 wc w.heap.size (fun k_=>(w.heap.size≤k_)∧k_≠aE∧k_≠aD) u268003 aJ)∧Aside0 (wc.heap[aE]?=some (.cells #[.string aU,.string aV,.string aW,(.slice none 0 0),(.slice none 0 0)] 25 (0,0)))∧Aside0 (wc.heap[aD]?=some (.cells #[.string aH,.string aI,.string aK,u268003,(.slice none 0 0)] 25 (0,0)))∧Aside0 (Below w.heap.size w wc))
               case first=>
                have H:=dP.out;clear dP;by_cases c44:aC<(l0.length:Int)
                ·rw [if_pos c44] at H
                 have bX:decide (aC<(l0.length:Int))=true:=decide_eq_true c44;clear c44
                 (first|rw [bX]|rw [gL]|rw [gM]|(simp only [i64_w,i32_w];rw [bX])|skip)
                 (try simp only [Bool.not_true,Bool.not_false])
                 by_cases c45:0≤aC
                 ·rw [if_pos c45] at H
                  have c45b0:decide (0≤aC)=true:=decide_eq_true c45;clear c45;replace H:=Option.bind_eq_some_iff.mp H;obtain⟨cI,eM,H⟩:=H;try dsimp only at H
                  have A46:=ak_ eM;clear eM;have H':=ak_ H;clear H;have dQ:0≤(aC:Int):=od_;have dR:aC<(l0.length:Int):=od_;obtain⟨gN,gO,dS⟩:=Kd.at_string HR0.out aC dQ dR;obtain rfl:aP=gN:=(by injection gO)
                  replace dS:=hx_ HB.out dS;replace dQ:=eq_true dQ;replace dR:=eq_true dR
                  go_wp2_with (first|(go_at_call 34;(with_reducible refine(i7_variant.calls k6 (rdOf ByteArray.empty l0 aC) cI _ A46.out).mono ?_);rintro e w' ⟨rfl,⟨nd,rfl⟩⟩))
                  go_meet
                  case rel=>exact ⟨_,(cI),(by first|rfl|(simp;done)|exact congrArg (Value.int .i64) (by unfold wrap64;omega)|(simp [*];done)),H',⟨by have:=HJ7.out;have:=HJ18.out;have:=HJ22.out;have:=HJ30.out;have:=HJ34.out;have:=HK6.out;first|omega|exact Nat.le_refl _⟩,⟨va_ HO_268003⟩,⟨bk_ aB⟩,⟨bk_ aA⟩,⟨hs_⟩⟩
                 ·rw [if_neg c45] at H
                  exact absurd H (by simp)
                ·rw [if_neg c44] at H
                 have bX:decide (aC<(l0.length:Int))=false:=decide_eq_false c44;clear c44
                 (first|rw [bX]|rw [gL]|rw [gM]|(simp only [i64_w,i32_w];rw [bX])|skip)
                 (try simp only [Bool.not_true,Bool.not_false])
                 have H':=ak_ H;clear H
                 go_wp2
                 go_meet
                 case rel=>exact ⟨_,(false),(by first|rfl|(simp;done)|exact congrArg (Value.int .i64) (by unfold wrap64;omega)|(simp [*];done)),H',⟨by have:=HJ7.out;have:=HJ18.out;have:=HJ22.out;have:=HJ30.out;have:=HJ34.out;have:=HK6.out;first|omega|exact Nat.le_refl _⟩,⟨va_ HO_268003⟩,⟨bk_ aB⟩,⟨bk_ aA⟩,⟨hs_⟩⟩
               case rest=>
                clear dP;obtain⟨kq,cP,rfl,HA,HJ42,HO_268003,aB,aA,HB⟩:=hcut;cases kq with
                |zero=>exact absurd HA.out (by simp [i7_read.j6])
                | succ kj42=>
                 have H:=HA.out;clear HA;simp only [i7_read.j6] at H;by_cases c47:cP=true
                 ·subst c47
                  replace H:=it_ H;by_cases c48:0≤aC
                  ·rw [if_pos c48] at H
                   have c48b0:decide (0≤aC)=true:=decide_eq_true c48;clear c48;by_cases c49:aC<(l0.length:Int)
                   ·rw [if_pos c49] at H
                    have c49b0:decide (aC<(l0.length:Int))=true:=decide_eq_true c49;clear c49;replace H:=Option.bind_eq_some_iff.mp H;obtain⟨aX,eN,H⟩:=H;try dsimp only at H
                    have A50:=ak_ eN;clear eN;replace H:=Option.bind_eq_some_iff.mp H;obtain⟨⟨aY,gP⟩,eO,H⟩:=H;try dsimp only at H
                    have A51:=ak_ eO;clear eO;by_cases c52:gP=true
                    ·subst c52
                     replace H:=it_ H;by_cases c53:(aY.length:Int)>64
                     ·rw [if_pos c53] at H
                      have gQ:decide (64<(aY.length:Int))=true:=decide_eq_true c53;have gR:decide (64<aY.length)=true:=decide_eq_true (by omega)
                      clear c53;by_cases c54:aC<(l1.length:Int)
                      ·rw [if_pos c54] at H
                       have c54b0:decide (aC<(l1.length:Int))=true:=decide_eq_true c54;clear c54;simp only [Option.some.injEq,Prod.mk.injEq] at H;obtain⟨rfl,rfl,rfl,rfl,rfl,rfl,rfl⟩:=H;try go_wp2
                       replace HO_268003:=ak_ (Kd.V_drew HO_268003.out);replace aB:=ak_ (blk_drew aB.out);replace aA:=ak_ (blk_drew aA.out);replace HB:=ak_ (below_drew1 HB.out);have aZ:0≤(aC:Int):=od_;have bA:aC<(l0.length:Int):=od_;obtain⟨bY,bZ,aS⟩:=Kd.at_string HR0.out aC aZ bA;have aQ:=aS;obtain rfl:aP=bY:=(by injection bZ)
                       replace aS:=hx_ HB.out aS;replace aZ:=eq_true aZ;replace bA:=eq_true bA;refine start_ (n:=13) (S:=fun w'=>w'.cell? ⟨aD,0,none⟩=some (.string aH)∧w'.cell? ⟨aD,1,none⟩=some (.string aI)∧w'.cell? ⟨aD,2,none⟩=some (.string aK)∧w'.cell? ⟨aD,3,none⟩=some (u268003)∧w'.cell? ⟨aD,4,none⟩=some (.slice none 0 0)∧w'.cell? (aP.add (aC).toNat)=some (.string (rdOf ByteArray.empty l0 aC))) (ds:=[]) (bmp 13 0) (by kernel_rfl) rfl rfl ⟨(blk_cell aA.out 0).trans rfl,(blk_cell aA.out 1).trans rfl,(blk_cell aA.out 2).trans rfl,(blk_cell aA.out 3).trans rfl,(blk_cell aA.out 4).trans rfl,(hx_ HB.out aQ :)⟩ (fun hHeld=>?_);refine with_tabW i7_read.tab14 i7_read.bits14 (fun HT_ HW_=>?_)
                       generalize wc.drew=w55 at HO_268003 aB aA HB aS hHeld ⊢;refine pu_ HT_ ?_;refine pg_ 2 (bm 13 5) HT_ ?_;refine pg_ 3 (bm 13 13) HT_ ?_;refine pg_ 4 (bm 13 29) HT_ ?_;refine tg_ 1 (bmp 13 5) HT_ HW_ hHeld ?_;refine tk_ HT_ HW_ hHeld ?_;refine one_ (i:=6) (N:=some 88) (bmp 13 7) rfl rfl (one_of HT_.out (by kernel_rfl)) (by decide) (fun K hK=>?_)
                       refine goes_ Tryz.func29 (by kernel_rfl) rfl #[.string (rdOf ByteArray.empty l0 aC)] (by rfl) rfl rfl (by(try simp only [List.map_toArray,List.map_cons,List.map_nil]);first|done|rfl|(simp only [List.length_drop,List.length_take];rfl)) ?_
                       with_reducible refine(i7_Small.calls (rdOf ByteArray.empty l0 aC) aX _ A50.out).mono ?_
                       rintro e w56 ⟨rfl,hb⟩;refine⟨_,rfl,?_⟩;replace HO_268003:=ak_ (Kd.V_below (va_ HO_268003) hb);replace aB:=ak_ (bb_ aB hb);replace aA:=ak_ (bb_ aA hb);replace HB:=ak_ (below_step hs_ hb)
                       (try clear hb)
                       (try clear hb2)
                       (try clear hk)
                       (try clear hi)
                       obtain⟨cQ,cR,eP⟩:=Kd.V_slice HO_268003.out
                       (first|subst eP|(injection eP with f1_ f2_ f3_;have f4_:=f1_.symm;have f5_:=f3_.symm;clear f1_ f2_ f3_;subst f4_;subst f5_))
                       refine hK.out _ _ ⟨(blk_cell aA.out 0).trans rfl,(blk_cell aA.out 1).trans rfl,(blk_cell aA.out 2).trans rfl,(blk_cell aA.out 3).trans rfl,(blk_cell aA.out 4).trans rfl,(hx_ HB.out aQ :)⟩ (fun hHeld=>?_);clear hK K;refine norm_ (a':=?_) ?_ ?_
                       rotate_left
                       ·show Act.put _ (some 88) _=_
                        simp only [Act.put,List.setIfInBounds_toArray,List.set_cons_zero,List.set_cons_succ,i64_w,i32_w];rfl
                       refine one_ (i:=7) (N:=some 89) (bmp 13 8) rfl rfl (one_of HT_.out (by kernel_rfl)) (by decide) (fun K hK=>?_)
                       refine goes_ Tryz.func81 (by kernel_rfl) rfl #[.slice cQ aJ.length cR,.string aX] (by rfl) rfl rfl (by(try simp only [List.map_toArray,List.map_cons,List.map_nil]);first|done|rfl|(simp only [List.length_drop,List.length_take];rfl)) ?_
                       with_reducible refine(i7_put.calls kj42 (fun k_=>((w.heap.size≤k_)∧(k_≠aE∧k_≠aD))) _ _ aJ aX aY true _ ?side1 A51.out).mono ?_
                       (case side1=>exact HO_268003.out)
                       rintro e w58 ⟨eQ,rfl,ho0,hb⟩;refine⟨_,rfl,?_⟩;replace HO_268003:=ak_ (Kd.V_below (va_ HO_268003) hb);have bB:=ak_ (Kd.V_lower (Kd.V_mono (ok':=fun k_=>(w.heap.size≤k_)∧k_≠aE∧k_≠aD) ho0 (fun k_ hk_=>⟨Or.elim hk_ (fun hs_=>hs_.1) (fun hn_=>(Nat.le_trans hsz_ hn_)),Or.elim hk_ (fun hs_=>hs_.2.1) (fun hn_=>(Kd.freshB (g:=aE) (o:=.cells #[.string aU,.string aV,.string aW,.slice none 0 0,.slice none 0 0] 25 (0,0)) (bk_ aB) k_ hn_)),Or.elim hk_ (fun hs_=>hs_.2.2) (fun hn_=>(Kd.freshB (g:=aD) (o:=.cells #[.string aH,.string aI,.string aK,.slice cQ aJ.length cR,.slice none 0 0] 25 (0,0)) (bk_ aA) k_ hn_))⟩)) hsz_);replace aB:=ak_ (bb_ aB hb);replace aA:=ak_ (bb_ aA hb);replace HB:=ak_ (below_step hs_ hb)
                       (try clear hb)
                       (try clear hb2)
                       (try clear hk)
                       (try clear hi)
                       (try clear ho0)
                       refine hK.out _ _ ⟨(blk_cell aA.out 0).trans rfl,(blk_cell aA.out 1).trans rfl,(blk_cell aA.out 2).trans rfl,(blk_cell aA.out 3).trans rfl,(blk_cell aA.out 4).trans rfl,(hx_ HB.out aQ :)⟩ (fun hHeld=>?_);clear hK K;refine norm_ (a':=?_) ?_ ?_
                       rotate_left
                       ·show Act.put _ (some 89) _=_
                        simp only [Act.put,List.setIfInBounds_toArray,List.set_cons_zero,List.set_cons_succ,i64_w,i32_w];rfl
                       iterate 5 (refine pu_ HT_ ?_)
                       refine dg_ HT_ ?_;obtain⟨Ao59,co59,gS⟩:=Kd.V_slice bB.out;subst gS;try go_wp2
                       replace HO_268003:=ak_ (Kd.V_drew HO_268003.out);replace bB:=ak_ (Kd.V_drew bB.out);replace aB:=ak_ (blk_drew aB.out);replace aA:=ak_ (blk_drew aA.out);replace HB:=ak_ (below_drew1 HB.out);have dT:0≤(aC:Int):=od_;have dU:aC<(l1.length:Int):=od_;obtain⟨gT,gU,cA⟩:=Kd.at_int HR1.out aC dT dU;have bM:=cA;cases gU;replace cA:=hx_ HB.out cA;replace dT:=eq_true dT;replace dU:=eq_true dU;refine start_ (n:=8) (S:=fun w'=>w'.cell? ⟨aD,0,none⟩=some (.string aH)∧w'.cell? ⟨aD,1,none⟩=some (.string aI)∧w'.cell? ⟨aD,2,none⟩=some (.string aK)∧w'.cell? ⟨aD,3,none⟩=some (.slice cQ aJ.length cR)∧w'.cell? ⟨aD,4,none⟩=some (.slice none 0 0)∧w'.cell? (gT.add (aC).toNat)=some (.int .i64 (rd l1 aC))) (ds:=[]) (bmp 8 0) (by kernel_rfl) rfl rfl ⟨(blk_cell aA.out 0).trans rfl,(blk_cell aA.out 1).trans rfl,(blk_cell aA.out 2).trans rfl,(blk_cell aA.out 3).trans rfl,(blk_cell aA.out 4).trans rfl,(hx_ HB.out bM :)⟩ (fun hHeld=>?_);refine with_tabW i7_read.tab18 i7_read.bits18 (fun HT_ HW_=>?_)
                       generalize w58.drew=w60 at HO_268003 bB aB aA HB cA hHeld ⊢;refine pg_ 1 (bm 8 2) HT_ ?_;refine pg_ 2 (bm 8 6) HT_ ?_;refine pg_ 3 (bm 8 14) HT_ ?_;refine tg_ 0 (bmp 8 4) HT_ HW_ hHeld ?_;refine tk_ HT_ HW_ hHeld ?_;refine one_ (i:=5) (N:=none) (bmp 8 6) rfl rfl (one_of HT_.out (by kernel_rfl)) (by decide) (fun K hK=>?_)
                       have hs61:w60.cell? ⟨aE,0,none⟩=some (.string aU):=(blk_cell aB.out 0).trans rfl;have hfs61:=blk_frozen aB.out 0;have iW:=aF.out;have iX:=aG.out;have hs62:w60.cell? ⟨aE,1,none⟩=some (.string aV):=(blk_cell aB.out 1).trans rfl;have hfs62:=blk_frozen aB.out 1;have iY:=aF.out;have iZ:=aG.out;have hs63:w60.cell? ⟨aE,2,none⟩=some (.string aW):=(blk_cell aB.out 2).trans rfl;have hfs63:=blk_frozen aB.out 2;have jA:=aF.out;have jB:=aG.out;have hs64:w60.cell? ⟨aE,3,none⟩=some (.slice none 0 0):=(blk_cell aB.out 3).trans rfl;have hfs64:=blk_frozen aB.out 3;have jC:=aF.out;have jD:=aG.out;have hs65:w60.cell? ⟨aE,4,none⟩=some (.slice none 0 0):=(blk_cell aB.out 4).trans rfl;have hfs65:=blk_frozen aB.out 4;have jE:=aF.out;have jF:=aG.out;refine skip_ (w1:=?_) (by rfl) rfl ?_ ?_
                       rotate_left
                       ·go_simp
                        rfl
                       refine hK.out _ _ ⟨(cf5_ aF.out (hHeld.1)),(cf5_ aF.out (hHeld.2.1)),(cf5_ aF.out (hHeld.2.2.1)),(cf5_ aF.out (hHeld.2.2.2.1)),(cf5_ aF.out (hHeld.2.2.2.2.1)),(cf5_ (by first|exact Nat.ne_of_lt (Nat.lt_of_lt_of_le (by have:=World.block_lt_of_cell? _ _ bM;first|rwa [add_block] at this|exact this) aT.out)|(rw [add_block];exact Nat.ne_of_lt (Nat.lt_of_lt_of_le (by have:=World.block_lt_of_cell? _ _ bM;first|rwa [add_block] at this|exact this) aT.out))|(show(Addr.add _ _).block≠_;rw [add_block];exact Nat.ne_of_lt (Nat.lt_of_lt_of_le (by have:=World.block_lt_of_cell? _ _ bM;first|rwa [add_block] at this|exact this) aT.out))|(dsimp only;exact Nat.ne_of_lt (Nat.lt_of_lt_of_le (by have:=World.block_lt_of_cell? _ _ bM;first|rwa [add_block] at this|exact this) aT.out))) (hHeld.2.2.2.2.2))⟩ (fun hHeld=>?_)
                       clear hK K
                       iterate 2 (refine pu_ HT_ ?_)
                       refine dg_ HT_ ?_;try go_wp2
                       refine bodyPost_ret (results_ctt rfl _ _ aE 25 #[.string aH,.string aI,.string aK,.slice cQ aJ.length cR,.slice none 0 0] (0,0) _ rfl (p5_ aB) Tryz.underlying25 rfl (by kernel_rfl)) rfl ?_
                       exact⟨_,_,re_,Kd.V_mono (vf5_ HO_268003 (fun _ hk=>hk.2.1)) (fun _ hk=>hk.1.1),Kd.R_V (base:=w.heap.size) (by first|exact Kd.R_nil _ _ _ _ _|exact Kd.N_nil _ _ _ _ _|exact Kd.V_nil _ _ _ _ _|exact Kd.Q_nil _ _ _ _ _|exact Kd.S_nil _ _ _ _ _),hs_⟩
                      ·rw [if_neg c54] at H
                       exact absurd H (by simp)
                     ·rw [if_neg c53] at H
                      have gQ:decide (64<(aY.length:Int))=false:=decide_eq_false c53;have gR:decide (64<aY.length)=false:=decide_eq_false (by omega)
                      clear c53;have H':=ak_ H;clear H;try go_wp2
                      replace HO_268003:=ak_ (Kd.V_drew HO_268003.out);replace aB:=ak_ (blk_drew aB.out);replace aA:=ak_ (blk_drew aA.out);replace HB:=ak_ (below_drew1 HB.out);have aZ:0≤(aC:Int):=od_;have bA:aC<(l0.length:Int):=od_;obtain⟨bY,bZ,aS⟩:=Kd.at_string HR0.out aC aZ bA;have aQ:=aS;obtain rfl:aP=bY:=(by injection bZ)
                      replace aS:=hx_ HB.out aS;replace aZ:=eq_true aZ;replace bA:=eq_true bA;refine start_ (n:=13) (S:=fun w'=>w'.cell? ⟨aD,0,none⟩=some (.string aH)∧w'.cell? ⟨aD,1,none⟩=some (.string aI)∧w'.cell? ⟨aD,2,none⟩=some (.string aK)∧w'.cell? ⟨aD,3,none⟩=some (u268003)∧w'.cell? ⟨aD,4,none⟩=some (.slice none 0 0)∧w'.cell? (aP.add (aC).toNat)=some (.string (rdOf ByteArray.empty l0 aC))) (ds:=[]) (bmp 13 0) (by kernel_rfl) rfl rfl ⟨(blk_cell aA.out 0).trans rfl,(blk_cell aA.out 1).trans rfl,(blk_cell aA.out 2).trans rfl,(blk_cell aA.out 3).trans rfl,(blk_cell aA.out 4).trans rfl,(hx_ HB.out aQ :)⟩ (fun hHeld=>?_);refine with_tabW i7_read.tab14 i7_read.bits14 (fun HT_ HW_=>?_)
                      generalize wc.drew=w66 at HO_268003 aB aA HB aS hHeld ⊢;refine pu_ HT_ ?_;refine pg_ 2 (bm 13 5) HT_ ?_;refine pg_ 3 (bm 13 13) HT_ ?_;refine pg_ 4 (bm 13 29) HT_ ?_;refine tg_ 1 (bmp 13 5) HT_ HW_ hHeld ?_;refine tk_ HT_ HW_ hHeld ?_;refine one_ (i:=6) (N:=some 88) (bmp 13 7) rfl rfl (one_of HT_.out (by kernel_rfl)) (by decide) (fun K hK=>?_)
                      refine goes_ Tryz.func29 (by kernel_rfl) rfl #[.string (rdOf ByteArray.empty l0 aC)] (by rfl) rfl rfl (by(try simp only [List.map_toArray,List.map_cons,List.map_nil]);first|done|rfl|(simp only [List.length_drop,List.length_take];rfl)) ?_
                      with_reducible refine(i7_Small.calls (rdOf ByteArray.empty l0 aC) aX _ A50.out).mono ?_
                      rintro e w67 ⟨rfl,hb⟩;refine⟨_,rfl,?_⟩;replace HO_268003:=ak_ (Kd.V_below (va_ HO_268003) hb);replace aB:=ak_ (bb_ aB hb);replace aA:=ak_ (bb_ aA hb);replace HB:=ak_ (below_step hs_ hb)
                      (try clear hb)
                      (try clear hb2)
                      (try clear hk)
                      (try clear hi)
                      obtain⟨dV,dW,eR⟩:=Kd.V_slice HO_268003.out
                      (first|subst eR|(injection eR with f1_ f2_ f3_;have f4_:=f1_.symm;have f5_:=f3_.symm;clear f1_ f2_ f3_;subst f4_;subst f5_))
                      refine hK.out _ _ ⟨(blk_cell aA.out 0).trans rfl,(blk_cell aA.out 1).trans rfl,(blk_cell aA.out 2).trans rfl,(blk_cell aA.out 3).trans rfl,(blk_cell aA.out 4).trans rfl,(hx_ HB.out aQ :)⟩ (fun hHeld=>?_);clear hK K;refine norm_ (a':=?_) ?_ ?_
                      rotate_left
                      ·show Act.put _ (some 88) _=_
                       simp only [Act.put,List.setIfInBounds_toArray,List.set_cons_zero,List.set_cons_succ,i64_w,i32_w];rfl
                      refine one_ (i:=7) (N:=some 89) (bmp 13 8) rfl rfl (one_of HT_.out (by kernel_rfl)) (by decide) (fun K hK=>?_)
                      refine goes_ Tryz.func81 (by kernel_rfl) rfl #[.slice dV aJ.length dW,.string aX] (by rfl) rfl rfl (by(try simp only [List.map_toArray,List.map_cons,List.map_nil]);first|done|rfl|(simp only [List.length_drop,List.length_take];rfl)) ?_
                      with_reducible refine(i7_put.calls kj42 (fun k_=>((w.heap.size≤k_)∧(k_≠aE∧k_≠aD))) _ _ aJ aX aY true _ ?side1 A51.out).mono ?_
                      (case side1=>exact HO_268003.out)
                      rintro e w69 ⟨eQ,rfl,ho0,hb⟩;refine⟨_,rfl,?_⟩;replace HO_268003:=ak_ (Kd.V_below (va_ HO_268003) hb);have bB:=ak_ (Kd.V_lower (Kd.V_mono (ok':=fun k_=>(w.heap.size≤k_)∧k_≠aE∧k_≠aD) ho0 (fun k_ hk_=>⟨Or.elim hk_ (fun hs_=>hs_.1) (fun hn_=>(Nat.le_trans hsz_ hn_)),Or.elim hk_ (fun hs_=>hs_.2.1) (fun hn_=>(Kd.freshB (g:=aE) (o:=.cells #[.string aU,.string aV,.string aW,.slice none 0 0,.slice none 0 0] 25 (0,0)) (bk_ aB) k_ hn_)),Or.elim hk_ (fun hs_=>hs_.2.2) (fun hn_=>(Kd.freshB (g:=aD) (o:=.cells #[.string aH,.string aI,.string aK,.slice dV aJ.length dW,.slice none 0 0] 25 (0,0)) (bk_ aA) k_ hn_))⟩)) hsz_);replace aB:=ak_ (bb_ aB hb);replace aA:=ak_ (bb_ aA hb);replace HB:=ak_ (below_step hs_ hb)
                      (try clear hb)
                      (try clear hb2)
                      (try clear hk)
                      (try clear hi)
                      (try clear ho0)
                      refine hK.out _ _ ⟨(blk_cell aA.out 0).trans rfl,(blk_cell aA.out 1).trans rfl,(blk_cell aA.out 2).trans rfl,(blk_cell aA.out 3).trans rfl,(blk_cell aA.out 4).trans rfl,(hx_ HB.out aQ :)⟩ (fun hHeld=>?_);clear hK K;refine norm_ (a':=?_) ?_ ?_
                      rotate_left
                      ·show Act.put _ (some 89) _=_
                       simp only [Act.put,List.setIfInBounds_toArray,List.set_cons_zero,List.set_cons_succ,i64_w,i32_w];rfl
                      iterate 5 (refine pu_ HT_ ?_)
                      refine dg_ HT_ ?_;obtain⟨eS,eT,gV⟩:=Kd.V_slice bB.out;subst gV;have hnb71:=aF.out;have hnc71:=aG.out;obtain⟨jG,jH,jI,jJ,jK,jL,jM,jN,jO,jP⟩:=c5_ aA;try go_wp2
                      go_roundg kj42
                      case measure=>have:=HJ7.out;have:=HJ18.out;have:=HJ22.out;have:=HJ30.out;have:=HJ34.out;have:=HK6.out;have:=HJ42.out;omega
                      case rel=>exact ⟨(wrap64 (aC+1)),(aU),(aV),(aW),(aY),(.slice eS aY.length eT),(by first|rfl|(simp;done)|exact congrArg (Value.int .i64) (by unfold wrap64;omega)|(simp [*];done)),H',⟨by have:=HJ7.out;have:=HJ18.out;have:=HJ22.out;have:=HJ30.out;have:=HJ34.out;have:=HK6.out;have:=HJ42.out;omega⟩,⟨by(with_reducible repeat (first|apply Kd.V_alloc|apply Kd.V_drewN|apply Kd.V_drew));exact Kd.V_mono (Kd.V_far (p:=⟨aD,3,none⟩) (Kd.V_mono bB.out (fun k_ hk=>(⟨hk,hk.2.2⟩:_∧k_≠aD))) (fun _ hk=>hk.2) (.slice eS aY.length eT)) (fun _ hk=>⟨hk.1.1,⟨hk.1.2.1,hk.1.2.2⟩⟩)⟩,⟨by(with_reducible repeat (first|refine blk_drewN ?_ _|refine blk_drew ?_|refine blk_alloc ?_ _));refine blk_far ?_ aG.out _;(with_reducible repeat (first|refine blk_drewN ?_ _|refine blk_drew ?_|refine blk_alloc ?_ _));exact aB.out⟩,⟨by(with_reducible repeat (first|refine blk_drewN ?_ _|refine blk_drew ?_|refine blk_alloc ?_ _));refine blk_put (cs:=#[.string aH,.string aI,.string aK,.slice dV aJ.length dW,.slice none 0 0]) ?_ 3 _ (by first|rfl|simp);(with_reducible repeat (first|refine blk_drewN ?_ _|refine blk_drew ?_|refine blk_alloc ?_ _));exact aA.out⟩,⟨hs_⟩⟩
                    ·replace c52:=Bool.eq_false_iff.mpr c52
                     subst c52;replace H:=if_f_ H;by_cases c73:aC<(l1.length:Int)
                     ·rw [if_pos c73] at H
                      have c73b0:decide (aC<(l1.length:Int))=true:=decide_eq_true c73;clear c73;simp only [Option.some.injEq,Prod.mk.injEq] at H;obtain⟨rfl,rfl,rfl,rfl,rfl,rfl,rfl⟩:=H;try go_wp2
                      replace HO_268003:=ak_ (Kd.V_drew HO_268003.out);replace aB:=ak_ (blk_drew aB.out);replace aA:=ak_ (blk_drew aA.out);replace HB:=ak_ (below_drew1 HB.out);have aZ:0≤(aC:Int):=od_;have bA:aC<(l0.length:Int):=od_;obtain⟨bY,bZ,aS⟩:=Kd.at_string HR0.out aC aZ bA;have aQ:=aS;obtain rfl:aP=bY:=(by injection bZ)
                      replace aS:=hx_ HB.out aS;replace aZ:=eq_true aZ;replace bA:=eq_true bA;refine start_ (n:=13) (S:=fun w'=>w'.cell? ⟨aD,0,none⟩=some (.string aH)∧w'.cell? ⟨aD,1,none⟩=some (.string aI)∧w'.cell? ⟨aD,2,none⟩=some (.string aK)∧w'.cell? ⟨aD,3,none⟩=some (u268003)∧w'.cell? ⟨aD,4,none⟩=some (.slice none 0 0)∧w'.cell? (aP.add (aC).toNat)=some (.string (rdOf ByteArray.empty l0 aC))) (ds:=[]) (bmp 13 0) (by kernel_rfl) rfl rfl ⟨(blk_cell aA.out 0).trans rfl,(blk_cell aA.out 1).trans rfl,(blk_cell aA.out 2).trans rfl,(blk_cell aA.out 3).trans rfl,(blk_cell aA.out 4).trans rfl,(hx_ HB.out aQ :)⟩ (fun hHeld=>?_);refine with_tabW i7_read.tab14 i7_read.bits14 (fun HT_ HW_=>?_)
                      generalize wc.drew=w74 at HO_268003 aB aA HB aS hHeld ⊢;refine pu_ HT_ ?_;refine pg_ 2 (bm 13 5) HT_ ?_;refine pg_ 3 (bm 13 13) HT_ ?_;refine pg_ 4 (bm 13 29) HT_ ?_;refine tg_ 1 (bmp 13 5) HT_ HW_ hHeld ?_;refine tk_ HT_ HW_ hHeld ?_;refine one_ (i:=6) (N:=some 88) (bmp 13 7) rfl rfl (one_of HT_.out (by kernel_rfl)) (by decide) (fun K hK=>?_)
                      refine goes_ Tryz.func29 (by kernel_rfl) rfl #[.string (rdOf ByteArray.empty l0 aC)] (by rfl) rfl rfl (by(try simp only [List.map_toArray,List.map_cons,List.map_nil]);first|done|rfl|(simp only [List.length_drop,List.length_take];rfl)) ?_
                      with_reducible refine(i7_Small.calls (rdOf ByteArray.empty l0 aC) aX _ A50.out).mono ?_
                      rintro e w75 ⟨rfl,hb⟩;refine⟨_,rfl,?_⟩;replace HO_268003:=ak_ (Kd.V_below (va_ HO_268003) hb);replace aB:=ak_ (bb_ aB hb);replace aA:=ak_ (bb_ aA hb);replace HB:=ak_ (below_step hs_ hb)
                      (try clear hb)
                      (try clear hb2)
                      (try clear hk)
                      (try clear hi)
                      obtain⟨cS,cT,eU⟩:=Kd.V_slice HO_268003.out
                      (first|subst eU|(injection eU with f1_ f2_ f3_;have f4_:=f1_.symm;have f5_:=f3_.symm;clear f1_ f2_ f3_;subst f4_;subst f5_))
                      refine hK.out _ _ ⟨(blk_cell aA.out 0).trans rfl,(blk_cell aA.out 1).trans rfl,(blk_cell aA.out 2).trans rfl,(blk_cell aA.out 3).trans rfl,(blk_cell aA.out 4).trans rfl,(hx_ HB.out aQ :)⟩ (fun hHeld=>?_);clear hK K;refine norm_ (a':=?_) ?_ ?_
                      rotate_left
                      ·show Act.put _ (some 88) _=_
                       simp only [Act.put,List.setIfInBounds_toArray,List.set_cons_zero,List.set_cons_succ,i64_w,i32_w];rfl
                      refine one_ (i:=7) (N:=some 89) (bmp 13 8) rfl rfl (one_of HT_.out (by kernel_rfl)) (by decide) (fun K hK=>?_)
                      refine goes_ Tryz.func81 (by kernel_rfl) rfl #[.slice cS aJ.length cT,.string aX] (by rfl) rfl rfl (by(try simp only [List.map_toArray,List.map_cons,List.map_nil]);first|done|rfl|(simp only [List.length_drop,List.length_take];rfl)) ?_
                      with_reducible refine(i7_put.calls kj42 (fun k_=>((w.heap.size≤k_)∧(k_≠aE∧k_≠aD))) _ _ aJ aX aY false _ ?side1 A51.out).mono ?_
                      (case side1=>exact HO_268003.out)
                      rintro e w77 ⟨eQ,rfl,ho0,hb⟩;refine⟨_,rfl,?_⟩;replace HO_268003:=ak_ (Kd.V_below (va_ HO_268003) hb);have bB:=ak_ (Kd.V_lower (Kd.V_mono (ok':=fun k_=>(w.heap.size≤k_)∧k_≠aE∧k_≠aD) ho0 (fun k_ hk_=>⟨Or.elim hk_ (fun hs_=>hs_.1) (fun hn_=>(Nat.le_trans hsz_ hn_)),Or.elim hk_ (fun hs_=>hs_.2.1) (fun hn_=>(Kd.freshB (g:=aE) (o:=.cells #[.string aU,.string aV,.string aW,.slice none 0 0,.slice none 0 0] 25 (0,0)) (bk_ aB) k_ hn_)),Or.elim hk_ (fun hs_=>hs_.2.2) (fun hn_=>(Kd.freshB (g:=aD) (o:=.cells #[.string aH,.string aI,.string aK,.slice cS aJ.length cT,.slice none 0 0] 25 (0,0)) (bk_ aA) k_ hn_))⟩)) hsz_);replace aB:=ak_ (bb_ aB hb);replace aA:=ak_ (bb_ aA hb);replace HB:=ak_ (below_step hs_ hb)
                      (try clear hb)
                      (try clear hb2)
                      (try clear hk)
                      (try clear hi)
                      (try clear ho0)
                      refine hK.out _ _ ⟨(blk_cell aA.out 0).trans rfl,(blk_cell aA.out 1).trans rfl,(blk_cell aA.out 2).trans rfl,(blk_cell aA.out 3).trans rfl,(blk_cell aA.out 4).trans rfl,(hx_ HB.out aQ :)⟩ (fun hHeld=>?_);clear hK K;refine norm_ (a':=?_) ?_ ?_
                      rotate_left
                      ·show Act.put _ (some 89) _=_
                       simp only [Act.put,List.setIfInBounds_toArray,List.set_cons_zero,List.set_cons_succ,i64_w,i32_w];rfl
                      iterate 5 (refine pu_ HT_ ?_)
                      refine dg_ HT_ ?_;try go_wp2
                      replace HO_268003:=ak_ (Kd.V_drew HO_268003.out);replace bB:=ak_ (Kd.V_drew bB.out);replace aB:=ak_ (blk_drew aB.out);replace aA:=ak_ (blk_drew aA.out);replace HB:=ak_ (below_drew1 HB.out);have dX:0≤(aC:Int):=od_;have dY:aC<(l1.length:Int):=od_;obtain⟨gW,gX,cB⟩:=Kd.at_int HR1.out aC dX dY;have bN:=cB;cases gX;replace cB:=hx_ HB.out cB;replace dX:=eq_true dX;replace dY:=eq_true dY;refine start_ (n:=8) (S:=fun w'=>w'.cell? ⟨aD,0,none⟩=some (.string aH)∧w'.cell? ⟨aD,1,none⟩=some (.string aI)∧w'.cell? ⟨aD,2,none⟩=some (.string aK)∧w'.cell? ⟨aD,3,none⟩=some (.slice cS aJ.length cT)∧w'.cell? ⟨aD,4,none⟩=some (.slice none 0 0)∧w'.cell? (gW.add (aC).toNat)=some (.int .i64 (rd l1 aC))) (ds:=[]) (bmp 8 0) (by kernel_rfl) rfl rfl ⟨(blk_cell aA.out 0).trans rfl,(blk_cell aA.out 1).trans rfl,(blk_cell aA.out 2).trans rfl,(blk_cell aA.out 3).trans rfl,(blk_cell aA.out 4).trans rfl,(hx_ HB.out bN :)⟩ (fun hHeld=>?_);refine with_tabW i7_read.tab16 i7_read.bits16 (fun HT_ HW_=>?_)
                      generalize w77.drew=w78 at HO_268003 bB aB aA HB cB hHeld ⊢;refine pg_ 1 (bm 8 2) HT_ ?_;refine pg_ 2 (bm 8 6) HT_ ?_;refine pg_ 3 (bm 8 14) HT_ ?_;refine tg_ 0 (bmp 8 4) HT_ HW_ hHeld ?_;refine tk_ HT_ HW_ hHeld ?_;refine one_ (i:=5) (N:=none) (bmp 8 6) rfl rfl (one_of HT_.out (by kernel_rfl)) (by decide) (fun K hK=>?_)
                      have hs79:w78.cell? ⟨aE,0,none⟩=some (.string aU):=(blk_cell aB.out 0).trans rfl;have hfs79:=blk_frozen aB.out 0;have jQ:=aF.out;have jR:=aG.out;have hs80:w78.cell? ⟨aE,1,none⟩=some (.string aV):=(blk_cell aB.out 1).trans rfl;have hfs80:=blk_frozen aB.out 1;have jS:=aF.out;have jT:=aG.out;have hs81:w78.cell? ⟨aE,2,none⟩=some (.string aW):=(blk_cell aB.out 2).trans rfl;have hfs81:=blk_frozen aB.out 2;have jU:=aF.out;have jV:=aG.out;have hs82:w78.cell? ⟨aE,3,none⟩=some (.slice none 0 0):=(blk_cell aB.out 3).trans rfl;have hfs82:=blk_frozen aB.out 3;have jW:=aF.out;have jX:=aG.out;have hs83:w78.cell? ⟨aE,4,none⟩=some (.slice none 0 0):=(blk_cell aB.out 4).trans rfl;have hfs83:=blk_frozen aB.out 4;have jY:=aF.out;have jZ:=aG.out;refine skip_ (w1:=?_) (by rfl) rfl ?_ ?_
                      rotate_left
                      ·go_simp
                       rfl
                      refine hK.out _ _ ⟨(cf5_ aF.out (hHeld.1)),(cf5_ aF.out (hHeld.2.1)),(cf5_ aF.out (hHeld.2.2.1)),(cf5_ aF.out (hHeld.2.2.2.1)),(cf5_ aF.out (hHeld.2.2.2.2.1)),(cf5_ (by first|exact Nat.ne_of_lt (Nat.lt_of_lt_of_le (by have:=World.block_lt_of_cell? _ _ bN;first|rwa [add_block] at this|exact this) aT.out)|(rw [add_block];exact Nat.ne_of_lt (Nat.lt_of_lt_of_le (by have:=World.block_lt_of_cell? _ _ bN;first|rwa [add_block] at this|exact this) aT.out))|(show(Addr.add _ _).block≠_;rw [add_block];exact Nat.ne_of_lt (Nat.lt_of_lt_of_le (by have:=World.block_lt_of_cell? _ _ bN;first|rwa [add_block] at this|exact this) aT.out))|(dsimp only;exact Nat.ne_of_lt (Nat.lt_of_lt_of_le (by have:=World.block_lt_of_cell? _ _ bN;first|rwa [add_block] at this|exact this) aT.out))) (hHeld.2.2.2.2.2))⟩ (fun hHeld=>?_)
                      clear hK K
                      iterate 2 (refine pu_ HT_ ?_)
                      refine dg_ HT_ ?_;try go_wp2
                      refine bodyPost_ret (results_ctt rfl _ _ aE 25 #[.string aH,.string aI,.string aK,.slice cS aJ.length cT,.slice none 0 0] (0,0) _ rfl (p5_ aB) Tryz.underlying25 rfl (by kernel_rfl)) rfl ?_
                      exact⟨_,_,re_,Kd.V_mono (vf5_ HO_268003 (fun _ hk=>hk.2.1)) (fun _ hk=>hk.1.1),Kd.R_V (base:=w.heap.size) (by first|exact Kd.R_nil _ _ _ _ _|exact Kd.N_nil _ _ _ _ _|exact Kd.V_nil _ _ _ _ _|exact Kd.Q_nil _ _ _ _ _|exact Kd.S_nil _ _ _ _ _),hs_⟩
                     ·rw [if_neg c73] at H
                      exact absurd H (by simp)
                   ·rw [if_neg c49] at H
                    exact absurd H (by simp)
                  ·rw [if_neg c48] at H
                   exact absurd H (by simp)
                 ·replace c47:=Bool.eq_false_iff.mpr c47
                  subst c47;replace H:=if_f_ H;by_cases c84:aC=(l0.length:Int)
                  ·rw [if_pos c84] at H
                   obtain⟨gY,gZ⟩:=eq2_ c84;clear c84;simp only [Option.some.injEq,Prod.mk.injEq] at H;obtain⟨rfl,rfl,rfl,rfl,rfl,rfl,rfl⟩:=H;have hnb85:=aF.out;have hnc85:=aG.out;obtain⟨kA,kB,kC,kD,kE,kF,kG,kH,kI,kJ⟩:=c5_ aA;obtain⟨kK,kL,kM,kN,kO,kP,kQ,kR,kS,kT⟩:=c5_ aB;obtain⟨hA,hB,hC⟩:=Kd.V_slice HO_268003.out;subst hC
                   go_wp2
                   refine bodyPost_ret (results_ctt rfl _ _ aE 25 #[.string aH,.string aI,.string aK,.slice hA aJ.length hB,.slice none 0 0] (0,0) _ rfl (p5_ aB) Tryz.underlying25 rfl (by kernel_rfl)) rfl ?_
                   exact⟨_,_,re_,Kd.V_mono (vf5_ HO_268003 (fun _ hk=>hk.2.1)) (fun _ hk=>hk.1.1),Kd.R_V (base:=w.heap.size) (by first|exact Kd.R_nil _ _ _ _ _|exact Kd.N_nil _ _ _ _ _|exact Kd.V_nil _ _ _ _ _|exact Kd.Q_nil _ _ _ _ _|exact Kd.S_nil _ _ _ _ _),hs_⟩
                  ·rw [if_neg c84] at H
                   obtain⟨gY,gZ⟩:=ne2_ c84;by_cases c89:0≤aC
                   ·rw [if_pos c89] at H
                    have c89b0:decide (0≤aC)=true:=decide_eq_true c89;clear c89;by_cases c90:aC<(l0.length:Int)
                    ·rw [if_pos c90] at H
                     have c90b0:decide (aC<(l0.length:Int))=true:=decide_eq_true c90;clear c90;replace H:=Option.bind_eq_some_iff.mp H;obtain⟨bP,eV,H⟩:=H;try dsimp only at H
                     have A91:=ak_ eV;clear eV;by_cases c92:bP.toList=([117]:List UInt8)
                     ·rw [if_pos c92] at H
                      obtain⟨hD,hE⟩:=eq2_ c92;clear c92;replace H:=Option.bind_eq_some_iff.mp H;obtain⟨⟨eW,eX,eY,eZ,fA,hF,hG⟩,fB,H⟩:=H;try dsimp only at H
                      have A93:=ak_ fB;clear fB;simp only [Option.some.injEq,Prod.mk.injEq] at H;obtain⟨rfl,rfl,rfl,rfl,rfl,rfl,rfl⟩:=H;have bH:0≤(aC:Int):=od_;have bI:aC<(l0.length:Int):=od_;obtain⟨dZ,eA,bJ⟩:=Kd.at_string HR0.out aC bH bI;obtain rfl:aP=dZ:=(by injection eA)
                      replace bJ:=hx_ HB.out bJ;replace bH:=eq_true bH;replace bI:=eq_true bI
                      go_wp2_with (first|((with_reducible refine gate_callee (f:=29) rfl ?_);refine gb_ (some 118) Tryz.func29 #[.string (rdOf ByteArray.empty l0 aC)] ?_;(with_reducible refine(i7_Small.calls (rdOf ByteArray.empty l0 aC) bP _ A91.out).mono ?_);rintro e w94 ⟨rfl,hb⟩;refine⟨_,rfl,?_⟩;replace HO_268003:=ak_ (Kd.V_below (va_ HO_268003) hb);replace aB:=ak_ (bb_ aB hb);replace aA:=ak_ (bb_ aA hb);replace HB:=ak_ (below_step hs_ hb);try clear hb;have hnb95:=aF.out;have hnc95:=aG.out;obtain⟨kU,kV,kW,kX,kY,kZ,lA,lB,lC,lD⟩:=c5_ aA;obtain⟨eB,eC,hH⟩:=Kd.V_slice HO_268003.out;subst hH)|((with_reducible refine gate_callee (f:=82) rfl ?_);refine gb_ (some 131) Tryz.func82 #[.agg #[.string aH,.string aI,.string aK,.slice eB aJ.length eC,.slice none 0 0],.slice (some aP) l0.length c0,.slice A1 l1.length c1,.int .i64 (wrap64 (aC+1)),.int .i64 a2] ?_;(refine(i7_keys.calls kj42 aH aI aK (fun k_=>((w.heap.size≤k_)∧(k_≠aE∧k_≠aD))) _ _ aJ (fun k_=>False) _ _ ([]:List (S39)) _ _ l0 _ _ l1 (wrap64 (aC+1)) a2 eW eX eY eZ fA hF hG _ ?side1 ?side2 ?side3 ?side4 ?side5 ?side6 A93.out).mono ?_);(case side1=>exact HO_268003.out);(case side2=>exact Kd.V_nil _ _ _ _ _);(case side3=>exact cb_ HR0);(case side4=>exact HC0.out);(case side5=>exact cb_ HR1);(case side6=>exact HC1.out);rintro e w98 ⟨v299,v302,rfl,ho0,ho1,hb⟩;refine⟨_,rfl,?_⟩;replace HO_268003:=ak_ (Kd.V_below (va_ HO_268003) hb);have fC:=ak_ (Kd.V_lower (Kd.V_mono (ok':=fun k_=>(w.heap.size≤k_)∧k_≠aE∧k_≠aD) ho0 (fun k_ hk_=>⟨Or.elim hk_ (fun hs_=>Or.elim hs_ (fun hs_=>hs_.1) (fun hs_=>(hs_).elim)) (fun hn_=>(Nat.le_trans hsz_ hn_)),Or.elim hk_ (fun hs_=>Or.elim hs_ (fun hs_=>hs_.2.1) (fun hs_=>(hs_).elim)) (fun hn_=>(Kd.freshB (g:=aE) (o:=.cells #[.string aU,.string aV,.string aW,.slice none 0 0,.slice none 0 0] 25 (0,0)) (bk_ aB) k_ hn_)),Or.elim hk_ (fun hs_=>Or.elim hs_ (fun hs_=>hs_.2.2) (fun hs_=>(hs_).elim)) (fun hn_=>(Kd.freshB (g:=aD) (o:=.cells #[.string aH,.string aI,.string aK,.slice eB aJ.length eC,.slice none 0 0] 25 (0,0)) (bk_ aA) k_ hn_))⟩)) hsz_);have fD:=ak_ (Kd.V_lower (Kd.V_mono (ok':=fun k_=>(w.heap.size≤k_)∧k_≠aE∧k_≠aD) ho1 (fun k_ hk_=>⟨Or.elim hk_ (fun hs_=>Or.elim hs_ (fun hs_=>hs_.1) (fun hs_=>(hs_).elim)) (fun hn_=>(Nat.le_trans hsz_ hn_)),Or.elim hk_ (fun hs_=>Or.elim hs_ (fun hs_=>hs_.2.1) (fun hs_=>(hs_).elim)) (fun hn_=>(Kd.freshB (g:=aE) (o:=.cells #[.string aU,.string aV,.string aW,.slice none 0 0,.slice none 0 0] 25 (0,0)) (bk_ aB) k_ hn_)),Or.elim hk_ (fun hs_=>Or.elim hs_ (fun hs_=>hs_.2.2) (fun hs_=>(hs_).elim)) (fun hn_=>(Kd.freshB (g:=aD) (o:=.cells #[.string aH,.string aI,.string aK,.slice eB aJ.length eC,.slice none 0 0] 25 (0,0)) (bk_ aA) k_ hn_))⟩)) hsz_);replace aB:=ak_ (bb_ aB hb);replace aA:=ak_ (bb_ aA hb);replace HB:=ak_ (below_step hs_ hb);try clear hb;(try clear ho0);(try clear ho1);obtain⟨lE,lF,lG,lH,lI,lJ,lK,lL,lM,lN⟩:=c5_ aB;obtain⟨hI,hJ,hL⟩:=Kd.V_slice fC.out;subst hL;obtain⟨hM,hN,hO⟩:=Kd.V_slice fD.out;subst hO))
                      refine bodyPost_ret (results_ctt rfl _ _ aE 25 #[.string eW,.string eX,.string eY,.slice hI eZ.length hJ,.slice hM fA.length hN] (0,0) _ rfl (p5_ aB) Tryz.underlying25 rfl (by kernel_rfl)) rfl ?_
                      exact⟨_,_,re_,Kd.V_mono (vf5_ fC (fun _ hk=>hk.2.1)) (fun _ hk=>hk.1.1),Kd.V_mono (vf5_ fD (fun _ hk=>hk.2.1)) (fun _ hk=>hk.1.1),hs_⟩
                     ·rw [if_neg c92] at H
                      obtain⟨hD,hE⟩:=ne2_ c92;by_cases cU:aC<(l1.length:Int)
                      ·rw [if_pos cU] at H
                       have lO:decide (aC<(l1.length:Int))=true:=decide_eq_true cU;clear cU;simp only [Option.some.injEq,Prod.mk.injEq] at H;obtain⟨rfl,rfl,rfl,rfl,rfl,rfl,rfl⟩:=H;have bH:0≤(aC:Int):=od_;have bI:aC<(l0.length:Int):=od_;obtain⟨dZ,eA,bJ⟩:=Kd.at_string HR0.out aC bH bI;obtain rfl:aP=dZ:=(by injection eA)
                       replace bJ:=hx_ HB.out bJ;replace bH:=eq_true bH;replace bI:=eq_true bI;try go_wp2_with (first|((with_reducible refine gate_callee (f:=29) rfl ?_);refine gb_ (some 118) Tryz.func29 #[.string (rdOf ByteArray.empty l0 aC)] ?_;(with_reducible refine(i7_Small.calls (rdOf ByteArray.empty l0 aC) bP _ A91.out).mono ?_);rintro e hP ⟨rfl,hb⟩;refine⟨_,rfl,?_⟩;replace HO_268003:=ak_ (Kd.V_below (va_ HO_268003) hb);replace aB:=ak_ (bb_ aB hb);replace aA:=ak_ (bb_ aA hb);replace HB:=ak_ (below_step hs_ hb);try clear hb))
                       replace HO_268003:=ak_ (Kd.V_drew HO_268003.out);replace aB:=ak_ (blk_drew aB.out);replace aA:=ak_ (blk_drew aA.out);replace HB:=ak_ (below_drew1 HB.out);have eD:0≤(aC:Int):=od_;have eE:aC<(l1.length:Int):=od_;obtain⟨hQ,hR,cC⟩:=Kd.at_int HR1.out aC eD eE;have bO:=cC;cases hR;replace cC:=hx_ HB.out cC;replace eD:=eq_true eD;replace eE:=eq_true eE;obtain⟨fE,fF,fG⟩:=Kd.V_slice HO_268003.out
                       (first|subst fG|(injection fG with f1_ f2_ f3_;have f4_:=f1_.symm;have f5_:=f3_.symm;clear f1_ f2_ f3_;subst f4_;subst f5_))
                       refine start_ (n:=8) (S:=fun w'=>w'.cell? ⟨aD,0,none⟩=some (.string aH)∧w'.cell? ⟨aD,1,none⟩=some (.string aI)∧w'.cell? ⟨aD,2,none⟩=some (.string aK)∧w'.cell? ⟨aD,3,none⟩=some (.slice fE aJ.length fF)∧w'.cell? ⟨aD,4,none⟩=some (.slice none 0 0)∧w'.cell? (hQ.add (aC).toNat)=some (.int .i64 (rd l1 aC))) (ds:=[]) (bmp 8 0) (by kernel_rfl) rfl rfl ⟨(blk_cell aA.out 0).trans rfl,(blk_cell aA.out 1).trans rfl,(blk_cell aA.out 2).trans rfl,(blk_cell aA.out 3).trans rfl,(blk_cell aA.out 4).trans rfl,(hx_ HB.out bO :)⟩ (fun hHeld=>?_);refine with_tabW i7_read.tab23 i7_read.bits23 (fun HT_ HW_=>?_)
                       generalize hP.drew=cD at HO_268003 aB aA HB cC hHeld ⊢;refine pg_ 1 (bm 8 2) HT_ ?_;refine pg_ 2 (bm 8 6) HT_ ?_;refine pg_ 3 (bm 8 14) HT_ ?_;refine tg_ 0 (bmp 8 4) HT_ HW_ hHeld ?_;refine tk_ HT_ HW_ hHeld ?_;refine one_ (i:=5) (N:=none) (bmp 8 6) rfl rfl (one_of HT_.out (by kernel_rfl)) (by decide) (fun K hK=>?_)
                       have hs105:cD.cell? ⟨aE,0,none⟩=some (.string aU):=(blk_cell aB.out 0).trans rfl;have lP:=blk_frozen aB.out 0;have lQ:=aF.out;have lR:=aG.out;have hs106:cD.cell? ⟨aE,1,none⟩=some (.string aV):=(blk_cell aB.out 1).trans rfl;have lS:=blk_frozen aB.out 1;have lT:=aF.out;have lU:=aG.out;have hs107:cD.cell? ⟨aE,2,none⟩=some (.string aW):=(blk_cell aB.out 2).trans rfl;have lV:=blk_frozen aB.out 2;have lW:=aF.out;have lX:=aG.out;have hs109:cD.cell? ⟨aE,3,none⟩=some (.slice none 0 0):=(blk_cell aB.out 3).trans rfl;have lY:=blk_frozen aB.out 3;have lZ:=aF.out;have mA:=aG.out;have hs110:cD.cell? ⟨aE,4,none⟩=some (.slice none 0 0):=(blk_cell aB.out 4).trans rfl;have mB:=blk_frozen aB.out 4;have mC:=aF.out;have mD:=aG.out;refine skip_ (w1:=?_) (by rfl) rfl ?_ ?_
                       rotate_left
                       ·go_simp
                        rfl
                       refine hK.out _ _ ⟨(cf5_ aF.out (hHeld.1)),(cf5_ aF.out (hHeld.2.1)),(cf5_ aF.out (hHeld.2.2.1)),(cf5_ aF.out (hHeld.2.2.2.1)),(cf5_ aF.out (hHeld.2.2.2.2.1)),(cf5_ (by first|exact Nat.ne_of_lt (Nat.lt_of_lt_of_le (by have:=World.block_lt_of_cell? _ _ bO;first|rwa [add_block] at this|exact this) aT.out)|(rw [add_block];exact Nat.ne_of_lt (Nat.lt_of_lt_of_le (by have:=World.block_lt_of_cell? _ _ bO;first|rwa [add_block] at this|exact this) aT.out))|(show(Addr.add _ _).block≠_;rw [add_block];exact Nat.ne_of_lt (Nat.lt_of_lt_of_le (by have:=World.block_lt_of_cell? _ _ bO;first|rwa [add_block] at this|exact this) aT.out))|(dsimp only;exact Nat.ne_of_lt (Nat.lt_of_lt_of_le (by have:=World.block_lt_of_cell? _ _ bO;first|rwa [add_block] at this|exact this) aT.out))) (hHeld.2.2.2.2.2))⟩ (fun hHeld=>?_)
                       clear hK K
                       iterate 2 (refine pu_ HT_ ?_)
                       refine dg_ HT_ ?_;try go_wp2
                       refine bodyPost_ret (results_ctt rfl _ _ aE 25 #[.string aH,.string aI,.string aK,.slice fE aJ.length fF,.slice none 0 0] (0,0) _ rfl (p5_ aB) Tryz.underlying25 rfl (by kernel_rfl)) rfl ?_
                       exact⟨_,_,re_,Kd.V_mono (vf5_ HO_268003 (fun _ hk=>hk.2.1)) (fun _ hk=>hk.1.1),Kd.R_V (base:=w.heap.size) (by first|exact Kd.R_nil _ _ _ _ _|exact Kd.N_nil _ _ _ _ _|exact Kd.V_nil _ _ _ _ _|exact Kd.Q_nil _ _ _ _ _|exact Kd.S_nil _ _ _ _ _),hs_⟩
                      ·rw [if_neg cU] at H
                       exact absurd H (by simp)
                    ·rw [if_neg c90] at H
                     exact absurd H (by simp)
                   ·rw [if_neg c89] at H
                    exact absurd H (by simp)
  ·replace c6:=Bool.eq_false_iff.mpr c6
   subst c6;replace H:=if_f_ H;simp only [Option.some.injEq,Prod.mk.injEq] at H;obtain⟨rfl,rfl,rfl,rfl,rfl,rfl,rfl⟩:=H
   go_enter Tryz.func52,Tryz.ntmps52
   go_wp2_with (first|((with_reducible refine gate_dst (N:=6) rfl ?_);refine bx_ 6 #[.string ⟨#[]⟩,.string ⟨#[]⟩,.string ⟨#[]⟩,.slice none 0 0,.slice none 0 0] 25 ?_;intro aE hg w111 hbox hb;have aB:=ak_ (hbox);have aT:=ak_ (gw_ hg);have fJ:=ak_ (gw_ hg);replace HB:=ak_ (below_step hb_ hb);clear hb hbox hg)|((with_reducible refine gate_dst (N:=9) rfl ?_);refine bx_ 9 #[.string ⟨#[]⟩,.string ⟨#[]⟩,.string ⟨#[]⟩,.slice none 0 0,.slice none 0 0] 25 ?_;intro aD hg w112 hbox hb;have aA:=ak_ (hbox);have cJ:=ak_ (gw_ hg);have fK:=ak_ (gw_ hg);replace HB:=ak_ (below_step hs_ hb);have aG:=ak_ (nl_ aB hg);have aF:=ak_ (ng_ aB hg);replace aB:=ak_ (bb_ aB hb);clear hb hbox hg;have mE:=aF.out;have mF:=aG.out;obtain⟨mG,mH,mI,mJ,mK,mL,mM,mN,mO,mP⟩:=c5_ aA;have bE:0≤(0:Int):=(by omega);have bF:0<(l0.length:Int):=od_;obtain⟨aP,cW,aR⟩:=Kd.at_string HR0.out 0 bE bF;cases cW;have qi268:(0<l0.length)=True:=eq_true (by omega);(try rw [show ((0:Int)).toNat=0 from rfl] at aR);(try rw [Addr.add_zero'] at aR);have hn268_0:aP.block≠aD:=Nat.ne_of_lt (Nat.lt_of_lt_of_le (by have:=World.block_lt_of_cell? _ _ aR;first|rwa [add_block] at this|exact this) cJ.out);replace aR:=hx_ HB.out aR;replace aR:=cf5x_ (.string ⟨#[]⟩) (.string ⟨#[]⟩) (.string ⟨#[]⟩) (.slice none 0 0) (.slice none 0 0) (by first|exact fb_ hn268_0|exact hn268_0) aR;clear hn268_0;replace bE:=eq_true bE;replace bF:=eq_true bF)|((with_reducible refine gate_callee (f:=28) rfl ?_);refine gb_ (some 17) Tryz.func28 #[.string (rdOf ByteArray.empty l0 0)] ?_;(with_reducible refine(i7_lang.calls k (rdOf ByteArray.empty l0 0) false _ A5.out).mono ?_);rintro e w' ⟨rfl,⟨nd,rfl⟩⟩;refine⟨_,rfl,?_⟩;obtain⟨mQ,mR,mS,mT,mU,mV,mW,mX,mY,mZ⟩:=c5_ aB))
   refine bodyPost_ret (results_ctt rfl _ _ aE 25 #[.string ⟨#[]⟩,.string ⟨#[]⟩,.string ⟨#[]⟩,.slice none 0 0,.slice none 0 0] (0,0) _ rfl (by(with_reducible repeat (first|refine blk_drewN ?_ _|refine blk_drew ?_|refine blk_alloc ?_ _));refine blk_put (cs:=#[.string ⟨#[]⟩,.string ⟨#[]⟩,.string ⟨#[]⟩,.slice none 0 0,.slice none 0 0]) ?_ 4 _ rfl;(with_reducible repeat (first|refine blk_drewN ?_ _|refine blk_drew ?_|refine blk_alloc ?_ _));refine blk_put (cs:=#[.string ⟨#[]⟩,.string ⟨#[]⟩,.string ⟨#[]⟩,.slice none 0 0,.slice none 0 0]) ?_ 3 _ (by first|rfl|simp);(with_reducible repeat (first|refine blk_drewN ?_ _|refine blk_drew ?_|refine blk_alloc ?_ _));refine blk_put (cs:=#[.string ⟨#[]⟩,.string ⟨#[]⟩,.string ⟨#[]⟩,.slice none 0 0,.slice none 0 0]) ?_ 2 _ rfl;(with_reducible repeat (first|refine blk_drewN ?_ _|refine blk_drew ?_|refine blk_alloc ?_ _));refine blk_put (cs:=#[.string ⟨#[]⟩,.string ⟨#[]⟩,.string ⟨#[]⟩,.slice none 0 0,.slice none 0 0]) ?_ 1 _ rfl;(with_reducible repeat (first|refine blk_drewN ?_ _|refine blk_drew ?_|refine blk_alloc ?_ _));refine blk_put (cs:=#[.string ⟨#[]⟩,.string ⟨#[]⟩,.string ⟨#[]⟩,.slice none 0 0,.slice none 0 0]) ?_ 0 _ rfl;(with_reducible repeat (first|refine blk_drewN ?_ _|refine blk_drew ?_|refine blk_alloc ?_ _));refine blk_far ?_ aG.out _;(with_reducible repeat (first|refine blk_drewN ?_ _|refine blk_drew ?_|refine blk_alloc ?_ _));refine blk_far ?_ aG.out _;(with_reducible repeat (first|refine blk_drewN ?_ _|refine blk_drew ?_|refine blk_alloc ?_ _));refine blk_far ?_ aG.out _;(with_reducible repeat (first|refine blk_drewN ?_ _|refine blk_drew ?_|refine blk_alloc ?_ _));refine blk_far ?_ aG.out _;(with_reducible repeat (first|refine blk_drewN ?_ _|refine blk_drew ?_|refine blk_alloc ?_ _));refine blk_far ?_ aG.out _;(with_reducible repeat (first|refine blk_drewN ?_ _|refine blk_drew ?_|refine blk_alloc ?_ _));exact aB.out) Tryz.underlying25 rfl (by kernel_rfl)) rfl ?_
   exact⟨_,_,re_,Kd.R_V (base:=w.heap.size) (by first|exact Kd.R_nil _ _ _ _ _|exact Kd.N_nil _ _ _ _ _|exact Kd.V_nil _ _ _ _ _|exact Kd.Q_nil _ _ _ _ _|exact Kd.S_nil _ _ _ _ _),Kd.R_V (base:=w.heap.size) (by first|exact Kd.R_nil _ _ _ _ _|exact Kd.N_nil _ _ _ _ _|exact Kd.V_nil _ _ _ _ _|exact Kd.Q_nil _ _ _ _ _|exact Kd.S_nil _ _ _ _ _),hs_⟩
 ·rw [if_neg c4] at H
  exact absurd H (by simp)
end Go.Proofs.YtphjhbppjakocaaGreatDoor.PTag
