/- Printed by a program (the kit's print.py with changes of this session) out of Lean's own print of the program: functions of the program as plain Lean functions, and that each call comes to what they say; conditions: those that each theorem states. Not trusted: Lean checks it. -/
import Derived.Test.YtphjhbppjakocaaGreatDoorWInv
import Derived.Test.YtphjhbppjakocaaGreatDoorPl1
import Derived.Test.YtphjhbppjakocaaGreatDoorWN
import Derived.Test.YtphjhbppjakocaaGreatDoorQCopied
set_option linter.unusedVariables false
set_option linter.unusedSimpArgs false
namespace Go.Proofs.YtphjhbppjakocaaGreatDoor.PTag
open Go.RowKit Go.Proofs.YtphjhbppjakocaaGreatDoorW.PrintWords Go.Proofs.YtphjhbppjakocaaGreatDoorW.PrintLast Go.Proofs.YtphjhbppjakocaaGreatDoorW.PrintMore
attribute [local go_sem] max2_int min2_int max_two min_two max_three min_three max_four min_four
attribute [local go_sem] setCell_drewN_ cell_put_twice_ gtr_less_
mutual
def tag_Check.j0:Nat→Bool→ByteArray→ByteArray→ByteArray→List ByteArray→List (S39)→Option (Int)
 |0,_,_,_,_,_,_=>none
 |k+1,x30,aP,aN,aO,aK,aL=>if x30=true then(some 70) else(if aN.toList=([]:List UInt8) then(tag_Check.j1 k false aP aN aO aK aL) else((tag_letters.f k aN 4 4).bind fun cJ=>(if cJ=true then((tag_title.f aN).bind fun bT=>(tag_Check.j1 k (aN.toList != bT.toList) aP aN aO aK aL)) else(tag_Check.j1 k true aP aN aO aK aL))))
def tag_Check.j1:Nat→Bool→ByteArray→ByteArray→ByteArray→List ByteArray→List (S39)→Option (Int)
 |0,_,_,_,_,_,_=>none
 |k+1,x47,aP,aN,aO,aK,aL=>if x47=true then(some 70) else(if aO.toList=([]:List UInt8) then(tag_Check.j2 k false aP aN aO aK aL) else((tag_region.f k aO).bind fun cK=>(if cK=true then((tag_upper.f aO).bind fun bU=>(tag_Check.j2 k (aO.toList != bU.toList) aP aN aO aK aL)) else(tag_Check.j2 k true aP aN aO aK aL))))
def tag_Check.j2:Nat→Bool→ByteArray→ByteArray→ByteArray→List ByteArray→List (S39)→Option (Int)
 |0,_,_,_,_,_,_=>none
 |k+1,x64,aP,aN,aO,aK,aL=>if x64=true then(some 70) else(if (aK.length:Int)>64 then(some 5) else(tag_Check.l0 k aK (aK.length:Int) 0 aP aN aO aK aL))
def tag_Check.l0:Nat→List ByteArray→Int→Int→ByteArray→ByteArray→ByteArray→List ByteArray→List (S39)→Option (Int)
 |0,_,_,_,_,_,_,_,_=>none
 |k+1,x70,x71,x72,aP,aN,aO,aK,aL=>if x72<x71 then(if 0≤x72 then(if x72<(x70.length:Int) then((tag_variant.f k (rdOf ByteArray.empty x70 x72)).bind fun cL=>(if cL=true then((tag_lower.f (rdOf ByteArray.empty x70 x72)).bind fun bV=>(tag_Check.j4 k x72 (rdOf ByteArray.empty x70 x72) x70 x71 x72 ((rdOf ByteArray.empty x70 x72).toList != bV.toList) aP aN aO aK aL)) else(tag_Check.j4 k x72 (rdOf ByteArray.empty x70 x72) x70 x71 x72 true aP aN aO aK aL))) else(none)) else(none)) else(if (aL.length:Int)>64 then(some 5) else(tag_Check.l1 k aL (aL.length:Int) 0 aP aN aO aK aL))
def tag_Check.j4:Nat→Int→ByteArray→List ByteArray→Int→Int→Bool→ByteArray→ByteArray→ByteArray→List ByteArray→List (S39)→Option (Int)
 |0,_,_,_,_,_,_,_,_,_,_,_=>none
 |k+1,x3,x4,x70,x71,x72,x85,aP,aN,aO,aK,aL=>if x85=true then(some 70) else(if x3>0 then(if 0≤(wrap64 (x3 - 1)) then(if (wrap64 (x3 - 1))<(aK.length:Int) then((tag_rising.f (rdOf ByteArray.empty aK (wrap64 (x3 - 1))) x4).bind fun bA=>(if bA=0 then(tag_Check.l0 k x70 x71 (wrap64 (x72+1)) aP aN aO aK aL) else(some bA))) else(none)) else(none)) else(tag_Check.l0 k x70 x71 (wrap64 (x72+1)) aP aN aO aK aL))
def tag_Check.l1:Nat→List (S39)→Int→Int→ByteArray→ByteArray→ByteArray→List ByteArray→List (S39)→Option (Int)
 |0,_,_,_,_,_,_,_,_=>none
 |k+1,aT,bF,aQ,aP,aN,aO,aK,aL=>if aQ<bF then(if 0≤aQ then(if aQ<(aT.length:Int) then((tag_signs.f k ((rd_T39 aT aQ).f0) 2 2).bind fun cM=>(if cM=true then((tag_lower.f ((rd_T39 aT aQ).f0)).bind fun bN=>(if ((rd_T39 aT aQ).f0).toList=bN.toList then((tag_valued.f k ((rd_T39 aT aQ).f1)).bind fun bW=>(tag_Check.j6 k aQ aT bF aQ (!bW) aP aN aO aK aL ((rd_T39 aT aQ).f0) ((rd_T39 aT aQ).f1))) else(tag_Check.j6 k aQ aT bF aQ true aP aN aO aK aL ((rd_T39 aT aQ).f0) ((rd_T39 aT aQ).f1)))) else(tag_Check.j6 k aQ aT bF aQ true aP aN aO aK aL ((rd_T39 aT aQ).f0) ((rd_T39 aT aQ).f1)))) else(none)) else(none)) else(some 0)
def tag_Check.j6:Nat→Int→List (S39)→Int→Int→Bool→ByteArray→ByteArray→ByteArray→List ByteArray→List (S39)→ByteArray→ByteArray→Option (Int)
 |0,_,_,_,_,_,_,_,_,_,_,_,_=>none
 |k+1,x6,aT,bF,aQ,dW,aP,aN,aO,aK,aL,dX,fO=>if dW=true then(some 70) else(if x6>0 then(if 0≤(wrap64 (x6 - 1)) then(if (wrap64 (x6 - 1))<(aL.length:Int) then((tag_rising.f ((rd_T39 aL (wrap64 (x6 - 1))).f0) dX).bind fun bB=>(if bB=0 then(tag_Check.l1 k aT bF (wrap64 (aQ+1)) aP aN aO aK aL) else(some bB))) else(none)) else(none)) else(tag_Check.l1 k aT bF (wrap64 (aQ+1)) aP aN aO aK aL))
end
def tag_Check.f (k:Nat) (aF:ByteArray) (aG:ByteArray) (aH:ByteArray) (aD:List ByteArray) (aB:List (S39)):Option (Int):=if aF.toList=([]:List UInt8) then(tag_Check.j0 k false aF aG aH aD aB) else((tag_letters.f k aF 2 3).bind fun bO=>(if bO=true then((tag_lower.f aF).bind fun bG=>(if aF.toList=bG.toList then(tag_Check.j0 k (aF.toList==([117,110,100]:List UInt8)) aF aG aH aD aB) else(tag_Check.j0 k true aF aG aH aD aB))) else(tag_Check.j0 k true aF aG aH aD aB)))
def tag_Check.T1:Bool×List (List Nat×List Nat):=(true,[([],[]),([0],[0]),([1],[1]),([2],[2]),([3],[3]),([4,3],[3,4]),([5,3,3],[3,5]),([6,3],[3,6]),([7,6,3],[3,7]),([8],[8]),([9,8],[8,9]),([8],[8]),([11,8],[8,11]),([12,8,8],[8,12]),([10,13,8],[8,10,13]),([8,14,3],[3,8,14]),([15,13,3],[3,15]),([16],[16]),([17,16],[16,17]),([18,16],[16,18]),([16,19,3],[3,16,19]),([3,20],[3,20])])
def tag_Check.B1:List Nat:=[0,1,3,7,15,31,63,127,255,511,1023,511,2559,6655,16383,32767,65535,131071,262143,524287,1048575,2097151]
theorem tag_Check.tab1:rtab .any (opsOf Tryz.f24 1)=tag_Check.T1:=by kernel_rfl
theorem tag_Check.bits1:waitsOk tag_Check.T1.2 tag_Check.B1=true:=by kernel_rfl
def tag_Check.T3:Bool×List (List Nat×List Nat):=(true,[([],[]),([0],[0]),([1],[1]),([2],[2]),([3],[3]),([4,3],[3,4]),([5,3,3],[3,5]),([6,3],[3,6]),([7,6,3],[3,7]),([8],[8]),([9,8],[8,9]),([8],[8]),([11,8],[8,11]),([12,8,8],[8,12]),([10,13,8],[8,10,13]),([8,14,3],[3,8,14]),([3,15],[3,15])])
def tag_Check.B3:List Nat:=[0,1,3,7,15,31,63,127,255,511,1023,511,2559,6655,16383,32767,65535]
theorem tag_Check.tab3:rtab .any (opsOf Tryz.f24 3)=tag_Check.T3:=by kernel_rfl
theorem tag_Check.bits3:waitsOk tag_Check.T3.2 tag_Check.B3=true:=by kernel_rfl
def tag_Check.T5:Bool×List (List Nat×List Nat):=(true,[([],[]),([0],[0]),([1],[1]),([2],[2]),([3],[3]),([4,3],[3,4]),([5,3,3],[3,5]),([6,3],[3,6]),([7,6,3],[3,7]),([8],[8]),([9,8],[8,9]),([8],[8]),([11,8],[8,11]),([12,8,8],[8,12]),([10,13,8],[8,10,13]),([8,14,3],[3,8,14]),([3,15],[3,15])])
def tag_Check.B5:List Nat:=[0,1,3,7,15,31,63,127,255,511,1023,511,2559,6655,16383,32767,65535]
theorem tag_Check.tab5:rtab .any (opsOf Tryz.f24 5)=tag_Check.T5:=by kernel_rfl
theorem tag_Check.bits5:waitsOk tag_Check.T5.2 tag_Check.B5=true:=by kernel_rfl
def tag_Check.T24:Bool×List (List Nat×List Nat):=(true,[([],[]),([0],[0]),([1],[1]),([2],[2]),([3,2],[3]),([4],[4]),([5,4],[4,5]),([4],[4]),([7,4],[4,7]),([8,4,4],[4,8]),([6,9,4],[4,6,9]),([4,10],[4,10]),([11,9],[11]),([12],[12]),([13,12],[12,13]),([14,12,12],[12,14]),([15,12],[12,15]),([12,16],[12,16])])
def tag_Check.B24:List Nat:=[0,1,3,7,15,31,63,31,159,415,1023,2047,4095,8191,16383,32767,65535,131071]
theorem tag_Check.tab24:rtab .any (opsOf Tryz.f24 24)=tag_Check.T24:=by kernel_rfl
theorem tag_Check.bits24:waitsOk tag_Check.T24.2 tag_Check.B24=true:=by kernel_rfl
def tag_Check.T27:Bool×List (List Nat×List Nat):=(true,[([],[]),([0],[0]),([],[]),([2],[2]),([1,3],[1,3]),([4],[4]),([5],[5]),([],[]),([7],[7]),([6,8],[6,8]),([9,9,0,1,2,3,4,5,6,7,8,9],[9])])
def tag_Check.B27:List Nat:=[0,1,0,4,15,31,63,0,128,511,1023]
theorem tag_Check.tab27:rtab .any (opsOf Tryz.f24 27)=tag_Check.T27:=by kernel_rfl
theorem tag_Check.bits27:waitsOk tag_Check.T27.2 tag_Check.B27=true:=by kernel_rfl
set_option maxHeartbeats 8000000 in
set_option maxRecDepth 100000 in
theorem tag_Check.calls (k :Nat) (aF:ByteArray) (aG:ByteArray) (aH:ByteArray) (aW:Option Addr) (aU:Nat) (aD:List ByteArray) (bC:Option Addr) (aV:Nat) (aB:List (S39)) (r:Int) (w:World) (hr0_3:Kd.C Kd.string w aW aD.length aD) (hc0_3:aD.length≤aU) (hr0_4:Kd.C k39 w bC aB.length aB) (hc0_4:aB.length≤aV) (hT:Tbl w) (h:tag_Check.f k aF aG aH aD aB=some r):
 Calls Tryz.prog 24 #[.agg #[.string aF,.string aG,.string aH,.slice aW aD.length aU,.slice bC aB.length aV]] w fun e w'=>e=.returned (.int .i64 r)∧Below w.heap.size w w':=by
 have hu25:=Tryz.underlying25;have hu39:=Tryz.underlying39;have cN:=ak_ hr0_3;have HC0_3:=ak_ hc0_3;clear hr0_3 hc0_3;have cO:=ak_ hr0_4;have HC0_4:=ak_ hc0_4;clear hr0_4 hc0_4;have HB:=ak_ (Below.refl w.heap.size w);have HT:=ak_ hT;clear hT;have H:(if aF.toList=([]:List UInt8) then(tag_Check.j0 k false aF aG aH aD aB) else((tag_letters.f k aF 2 3).bind fun bO=>(if bO=true then((tag_lower.f aF).bind fun bG=>(if aF.toList=bG.toList then(tag_Check.j0 k (aF.toList==([117,110,100]:List UInt8)) aF aG aH aD aB) else(tag_Check.j0 k true aF aG aH aD aB))) else(tag_Check.j0 k true aF aG aH aD aB))))=some r:=h;clear h;have HC2:=ak_ H;clear H
 go_enter Tryz.func24,Tryz.ntmps24
 go_upto_region 1 with (first|((with_reducible refine gate_dst (N:=1) rfl ?_);refine bx_ 1 #[.string aF,.string aG,.string aH,.slice aW aD.length aU,.slice bC aB.length aV] 25 ?_;intro aR hg w3 hbox hb;have aA:=ak_ (hbox);have GW176:=ak_ (gw_ hg);have GE176:=ak_ (gw_ hg);replace HB:=ak_ (below_step hb_ hb);clear hb hbox hg))
 (try simp only [Act.put,List.setIfInBounds_toArray,List.set_cons_zero,List.set_cons_succ])
 go_cut [30] (fun v30 wc=>∃ (kq:Nat) (bX:Bool),v30=.bool bX∧Aside0 (tag_Check.j0 kq bX aF aG aH aD aB=some r)∧Aside0 (kq≤k)∧Aside0 (wc.heap[aR]?=some (.cells #[.string aF,.string aG,.string aH,(.slice aW aD.length aU),(.slice bC aB.length aV)] 25 (0,0)))∧Aside0 (Below w.heap.size w wc))
 case first=>
  have H:=HC2.out;clear HC2;by_cases c4:aF.toList=([]:List UInt8)
  ·rw [if_pos c4] at H
   obtain⟨bP,cP,cQ⟩:=eq3_ c4;clear c4
   (first|rw [bP]|rw [cP]|rw [cQ]|(simp only [i64_w,i32_w];rw [bP])|skip)
   (try simp only [Bool.not_true,Bool.not_false])
   have H':=ak_ H;clear H;try go_wp2
   replace aA:=ak_ (blk_drew aA.out);replace HB:=ak_ (below_drew1 HB.out);refine st5_ 22 tag_Check.tab1 tag_Check.bits1 aA (fun hHeld HT_ HW_=>?_);generalize w3.drew=w5 at aA HB hHeld ⊢
   iterate 22 (first|refine sk_ HT_ ?_|refine pu_ HT_ ?_|refine tk_ HT_ HW_ hHeld ?_)
   refine dg_ HT_ ?_;try go_wp2
   go_meet
   case rel=>exact ⟨_,(false),rr_,H',⟨by first|omega|exact Nat.le_refl _⟩,⟨bk_ aA⟩,⟨hs_⟩⟩
  ·rw [if_neg c4] at H
   obtain⟨bP,cP,cQ⟩:=ne3_ c4
   (first|rw [bP]|rw [cP]|rw [cQ]|(simp only [i64_w,i32_w];rw [bP])|skip)
   (try simp only [Bool.not_true,Bool.not_false])
   replace H:=Option.bind_eq_some_iff.mp H;obtain⟨bO,A60,H⟩:=H;try dsimp only at H
   have A6:=ak_ A60;clear A60;by_cases c7:bO=true
   ·subst c7
    replace H:=it_ H;replace H:=Option.bind_eq_some_iff.mp H;obtain⟨bG,A80,H⟩:=H;try dsimp only at H
    have A8:=ak_ A80;clear A80;by_cases c9:aF.toList=bG.toList
    ·rw [if_pos c9] at H
     obtain⟨dY,dZ⟩:=eq2_ c9;clear c9;have H':=ak_ H;clear H;try go_wp2
     replace aA:=ak_ (blk_drew aA.out);replace HB:=ak_ (below_drew1 HB.out);refine st5_ 22 tag_Check.tab1 tag_Check.bits1 aA (fun hHeld HT_ HW_=>?_);generalize w3.drew=w10 at aA HB hHeld ⊢
     iterate 6 (first|refine pu_ HT_ ?_|refine tk_ HT_ HW_ hHeld ?_)
     refine cg_ 6 (bmp 22 7) (some 15) Tryz.func53 #[.string aF,.int .i64 2,.int .i64 3] HT_ ?_
     with_reducible refine(tag_letters.calls k aF 2 3 true _ A6.out).mono ?_
     rintro e w' ⟨rfl,⟨nd,rfl⟩⟩;refine⟨_,rfl,s5_ aA,fun hHeld=>nm_ ?_⟩
     iterate 3 (refine pu_ HT_ ?_)
     refine pg_ 11 (bm 22 3071) HT_ ?_;refine tg_ 10 (bmp 22 12) HT_ HW_ hHeld ?_;refine tk_ HT_ HW_ hHeld ?_;refine cg_ 13 (bmp 22 14) (some 22) Tryz.func44 #[.string aF] HT_ ?_
     with_reducible refine(tag_lower.calls aF bG _ A8.out).mono ?_
     rintro e w11 ⟨rfl,hb⟩;replace aA:=ak_ (bb_ aA hb);replace HB:=ak_ (below_step hs_ hb)
     (try clear hb)
     (try clear hb2)
     (try clear hk)
     (try clear hi)
     refine⟨_,rfl,s5_ aA,fun hHeld=>nm_ ?_⟩
     iterate 8 (first|refine pu_ HT_ ?_|refine tk_ HT_ HW_ hHeld ?_)
     refine dg_ HT_ ?_;try go_wp2
     go_meet
     case rel=>exact ⟨_,((aF.toList==([117,110,100]:List UInt8))),rr_,H',⟨by first|omega|exact Nat.le_refl _⟩,⟨bk_ aA⟩,⟨hs_⟩⟩
    ·rw [if_neg c9] at H
     obtain⟨dY,dZ⟩:=ne2_ c9;have H':=ak_ H;clear H;try go_wp2
     replace aA:=ak_ (blk_drew aA.out);replace HB:=ak_ (below_drew1 HB.out);refine st5_ 22 tag_Check.tab1 tag_Check.bits1 aA (fun hHeld HT_ HW_=>?_);generalize w3.drew=w12 at aA HB hHeld ⊢
     iterate 6 (first|refine pu_ HT_ ?_|refine tk_ HT_ HW_ hHeld ?_)
     refine cg_ 6 (bmp 22 7) (some 15) Tryz.func53 #[.string aF,.int .i64 2,.int .i64 3] HT_ ?_
     with_reducible refine(tag_letters.calls k aF 2 3 true _ A6.out).mono ?_
     rintro e w' ⟨rfl,⟨nd,rfl⟩⟩;refine⟨_,rfl,s5_ aA,fun hHeld=>nm_ ?_⟩
     iterate 3 (refine pu_ HT_ ?_)
     refine pg_ 11 (bm 22 3071) HT_ ?_;refine tg_ 10 (bmp 22 12) HT_ HW_ hHeld ?_;refine tk_ HT_ HW_ hHeld ?_;refine cg_ 13 (bmp 22 14) (some 22) Tryz.func44 #[.string aF] HT_ ?_
     with_reducible refine(tag_lower.calls aF bG _ A8.out).mono ?_
     rintro e w13 ⟨rfl,hb⟩;replace aA:=ak_ (bb_ aA hb);replace HB:=ak_ (below_step hs_ hb)
     (try clear hb)
     (try clear hb2)
     (try clear hk)
     (try clear hi)
     refine⟨_,rfl,s5_ aA,fun hHeld=>nm_ ?_⟩
     iterate 8 (first|refine sk_ HT_ ?_|refine pu_ HT_ ?_)
     refine dg_ HT_ ?_;try go_wp2
     go_meet
     case rel=>exact ⟨_,(true),rr_,H',⟨by first|omega|exact Nat.le_refl _⟩,⟨bk_ aA⟩,⟨hs_⟩⟩
   ·replace c7:=Bool.eq_false_iff.mpr c7
    subst c7;replace H:=if_f_ H;have H':=ak_ H;clear H;try go_wp2
    replace aA:=ak_ (blk_drew aA.out);replace HB:=ak_ (below_drew1 HB.out);refine st5_ 22 tag_Check.tab1 tag_Check.bits1 aA (fun hHeld HT_ HW_=>?_);generalize w3.drew=w14 at aA HB hHeld ⊢
    iterate 6 (first|refine pu_ HT_ ?_|refine tk_ HT_ HW_ hHeld ?_)
    refine cg_ 6 (bmp 22 7) (some 15) Tryz.func53 #[.string aF,.int .i64 2,.int .i64 3] HT_ ?_
    with_reducible refine(tag_letters.calls k aF 2 3 false _ A6.out).mono ?_
    rintro e w' ⟨rfl,⟨nd,rfl⟩⟩;refine⟨_,rfl,s5_ aA,fun hHeld=>nm_ ?_⟩
    iterate 15 (first|refine sk_ HT_ ?_|refine pu_ HT_ ?_)
    refine dg_ HT_ ?_;try go_wp2
    go_meet
    case rel=>exact ⟨_,(true),rr_,H',⟨by first|omega|exact Nat.le_refl _⟩,⟨bk_ aA⟩,⟨hs_⟩⟩
 case rest =>
  clear HC2;obtain⟨kq,bX,rfl,HA,HJ1,aA,HB⟩:=hcut;cases kq with
  |zero=>exact absurd HA.out (by simp [tag_Check.j0])
  | succ kj1 =>
   have H:=HA.out;clear HA;simp only [tag_Check.j0] at H;by_cases c15:bX=true
   ·subst c15
    replace H:=it_ H;obtain rfl:=Option.some.inj H
    go_wp2
    go_ret
    exact⟨re_,hs_⟩
   ·replace c15 := Bool.eq_false_iff.mpr c15
    subst c15;replace H:=if_f_ H;have cR:=ak_ H;clear H
    go_upto_region 3 with (fail)
    go_cut [47] (fun v47 wc=>∃ (kq:Nat) (bY:Bool),v47=.bool bY∧Aside0 (tag_Check.j1 kq bY aF aG aH aD aB=some r)∧Aside0 (kq≤kj1)∧Aside0 (wc.heap[aR]?=some (.cells #[.string aF,.string aG,.string aH,(.slice aW aD.length aU),(.slice bC aB.length aV)] 25 (0,0)))∧Aside0 (Below w.heap.size w wc))
    case first=>
     have H:=cR.out;clear cR;by_cases c17:aG.toList=([]:List UInt8)
     ·rw [if_pos c17] at H
      obtain⟨bQ,cS,cT⟩:=eq3_ c17;clear c17
      (first|rw [bQ]|rw [cS]|rw [cT]|(simp only [i64_w,i32_w];rw [bQ])|skip)
      (try simp only [Bool.not_true,Bool.not_false])
      have H':=ak_ H;clear H;try go_wp2
      replace aA:=ak_ (blk_drew aA.out);replace HB:=ak_ (below_drew1 HB.out);refine st5_ 17 tag_Check.tab3 tag_Check.bits3 aA (fun hHeld HT_ HW_=>?_);generalize wc.drew=w18 at aA HB hHeld ⊢
      iterate 17 (first|refine sk_ HT_ ?_|refine pu_ HT_ ?_|refine tk_ HT_ HW_ hHeld ?_)
      refine dg_ HT_ ?_;try go_wp2
      go_meet
      case rel=>exact ⟨_,(false),rr_,H',⟨by have:=HJ1.out;first|omega|exact Nat.le_refl _⟩,⟨bk_ aA⟩,⟨hs_⟩⟩
     ·rw [if_neg c17] at H
      obtain⟨bQ,cS,cT⟩:=ne3_ c17
      (first|rw [bQ]|rw [cS]|rw [cT]|(simp only [i64_w,i32_w];rw [bQ])|skip)
      (try simp only [Bool.not_true,Bool.not_false])
      replace H:=Option.bind_eq_some_iff.mp H;obtain⟨cJ,dG,H⟩:=H;try dsimp only at H
      have A19:=ak_ dG;clear dG;by_cases c20:cJ=true
      ·subst c20
       replace H:=it_ H;replace H:=Option.bind_eq_some_iff.mp H;obtain⟨bT,dH,H⟩:=H;try dsimp only at H
       have A21:=ak_ dH;clear dH;have H':=ak_ H;clear H;try go_wp2
       replace aA:=ak_ (blk_drew aA.out);replace HB:=ak_ (below_drew1 HB.out);refine st5_ 17 tag_Check.tab3 tag_Check.bits3 aA (fun hHeld HT_ HW_=>?_);generalize wc.drew=w22 at aA HB hHeld ⊢
       iterate 6 (first|refine pu_ HT_ ?_|refine tk_ HT_ HW_ hHeld ?_)
       refine cg_ 6 (bmp 17 7) (some 37) Tryz.func53 #[.string aG,.int .i64 4,.int .i64 4] HT_ ?_
       with_reducible refine(tag_letters.calls kj1 aG 4 4 true _ A19.out).mono ?_
       rintro e w' ⟨rfl,⟨nd,rfl⟩⟩;refine⟨_,rfl,s5_ aA,fun hHeld=>nm_ ?_⟩
       iterate 3 (refine pu_ HT_ ?_)
       refine pg_ 11 (bm 17 3071) HT_ ?_;refine tg_ 10 (bmp 17 12) HT_ HW_ hHeld ?_;refine tk_ HT_ HW_ hHeld ?_;refine cg_ 13 (bmp 17 14) (some 44) Tryz.func54 #[.string aG] HT_ ?_
       with_reducible refine(tag_title.calls aG bT _ A21.out).mono ?_
       rintro e w23 ⟨rfl,hb⟩;replace aA:=ak_ (bb_ aA hb);replace HB:=ak_ (below_step hs_ hb)
       (try clear hb)
       (try clear hb2)
       (try clear hk)
       (try clear hi)
       refine⟨_,rfl,s5_ aA,fun hHeld=>nm_ ?_⟩
       iterate 3 (refine pu_ HT_ ?_)
       refine dg_ HT_ ?_;try go_wp2
       go_meet
       case rel=>exact ⟨_,((aG.toList != bT.toList)),rr_,H',⟨by have:=HJ1.out;first|omega|exact Nat.le_refl _⟩,⟨bk_ aA⟩,⟨hs_⟩⟩
      ·replace c20:=Bool.eq_false_iff.mpr c20
       subst c20;replace H:=if_f_ H;have H':=ak_ H;clear H;try go_wp2
       replace aA:=ak_ (blk_drew aA.out);replace HB:=ak_ (below_drew1 HB.out);refine st5_ 17 tag_Check.tab3 tag_Check.bits3 aA (fun hHeld HT_ HW_=>?_);generalize wc.drew=w24 at aA HB hHeld ⊢
       iterate 6 (first|refine pu_ HT_ ?_|refine tk_ HT_ HW_ hHeld ?_)
       refine cg_ 6 (bmp 17 7) (some 37) Tryz.func53 #[.string aG,.int .i64 4,.int .i64 4] HT_ ?_
       with_reducible refine(tag_letters.calls kj1 aG 4 4 false _ A19.out).mono ?_
       rintro e w' ⟨rfl,⟨nd,rfl⟩⟩;refine⟨_,rfl,s5_ aA,fun hHeld=>nm_ ?_⟩
       iterate 10 (first|refine sk_ HT_ ?_|refine pu_ HT_ ?_)
       refine dg_ HT_ ?_;try go_wp2
       go_meet
       case rel=>exact ⟨_,(true),rr_,H',⟨by have:=HJ1.out;first|omega|exact Nat.le_refl _⟩,⟨bk_ aA⟩,⟨hs_⟩⟩
    case rest =>
     clear cR;obtain⟨kq,bY,rfl,HA,HJ15,aA,HB⟩:=hcut;cases kq with
     |zero=>exact absurd HA.out (by simp [tag_Check.j1])
     | succ kj15 =>
      have H:=HA.out;clear HA;simp only [tag_Check.j1] at H;by_cases c25:bY=true
      ·subst c25
       replace H:=it_ H;obtain rfl:=Option.some.inj H
       go_wp2
       go_ret
       exact⟨re_,hs_⟩
      ·replace c25 := Bool.eq_false_iff.mpr c25
       subst c25;replace H:=if_f_ H;have cU:=ak_ H;clear H
       go_upto_region 5 with (fail)
       go_cut [64] (fun v64 wc=>∃ (kq:Nat) (bZ:Bool),v64=.bool bZ∧Aside0 (tag_Check.j2 kq bZ aF aG aH aD aB=some r)∧Aside0 (kq≤kj15)∧Aside0 (wc.heap[aR]?=some (.cells #[.string aF,.string aG,.string aH,(.slice aW aD.length aU),(.slice bC aB.length aV)] 25 (0,0)))∧Aside0 (Below w.heap.size w wc))
       case first=>
        have H:=cU.out;clear cU;by_cases c27:aH.toList=([]:List UInt8)
        ·rw [if_pos c27] at H
         obtain⟨bR,cV,cW⟩:=eq3_ c27;clear c27
         (first|rw [bR]|rw [cV]|rw [cW]|(simp only [i64_w,i32_w];rw [bR])|skip)
         (try simp only [Bool.not_true,Bool.not_false])
         have H':=ak_ H;clear H;try go_wp2
         replace aA:=ak_ (blk_drew aA.out);replace HB:=ak_ (below_drew1 HB.out);refine st5_ 17 tag_Check.tab5 tag_Check.bits5 aA (fun hHeld HT_ HW_=>?_);generalize wc.drew=w28 at aA HB hHeld ⊢
         iterate 17 (first|refine sk_ HT_ ?_|refine pu_ HT_ ?_|refine tk_ HT_ HW_ hHeld ?_)
         refine dg_ HT_ ?_;try go_wp2
         go_meet
         case rel=>exact ⟨_,(false),rr_,H',⟨by have:=HJ1.out;have:=HJ15.out;first|omega|exact Nat.le_refl _⟩,⟨bk_ aA⟩,⟨hs_⟩⟩
        ·rw [if_neg c27] at H
         obtain⟨bR,cV,cW⟩:=ne3_ c27
         (first|rw [bR]|rw [cV]|rw [cW]|(simp only [i64_w,i32_w];rw [bR])|skip)
         (try simp only [Bool.not_true,Bool.not_false])
         replace H:=Option.bind_eq_some_iff.mp H;obtain⟨cK,dI,H⟩:=H;try dsimp only at H
         have A29:=ak_ dI;clear dI;by_cases c30:cK=true
         ·subst c30
          replace H:=it_ H;replace H:=Option.bind_eq_some_iff.mp H;obtain⟨bU,dJ,H⟩:=H;try dsimp only at H
          have A31:=ak_ dJ;clear dJ;have H':=ak_ H;clear H;try go_wp2
          replace aA:=ak_ (blk_drew aA.out);replace HB:=ak_ (below_drew1 HB.out);refine st5_ 17 tag_Check.tab5 tag_Check.bits5 aA (fun hHeld HT_ HW_=>?_);generalize wc.drew=w32 at aA HB hHeld ⊢
          iterate 6 (first|refine pu_ HT_ ?_|refine tk_ HT_ HW_ hHeld ?_)
          refine cg_ 6 (bmp 17 7) (some 54) Tryz.func55 #[.string aH] HT_ ?_
          with_reducible refine(tag_region.calls kj15 aH true _ A29.out).mono ?_
          rintro e w' ⟨rfl,⟨nd,rfl⟩⟩;refine⟨_,rfl,s5_ aA,fun hHeld=>nm_ ?_⟩
          iterate 3 (refine pu_ HT_ ?_)
          refine pg_ 11 (bm 17 3071) HT_ ?_;refine tg_ 10 (bmp 17 12) HT_ HW_ hHeld ?_;refine tk_ HT_ HW_ hHeld ?_;refine cg_ 13 (bmp 17 14) (some 61) Tryz.func56 #[.string aH] HT_ ?_
          with_reducible refine(tag_upper.calls aH bU _ A31.out).mono ?_
          rintro e w33 ⟨rfl,hb⟩;replace aA:=ak_ (bb_ aA hb);replace HB:=ak_ (below_step hs_ hb)
          (try clear hb)
          (try clear hb2)
          (try clear hk)
          (try clear hi)
          refine⟨_,rfl,s5_ aA,fun hHeld=>nm_ ?_⟩
          iterate 3 (refine pu_ HT_ ?_)
          refine dg_ HT_ ?_;try go_wp2
          go_meet
          case rel=>exact ⟨_,((aH.toList != bU.toList)),rr_,H',⟨by have:=HJ1.out;have:=HJ15.out;first|omega|exact Nat.le_refl _⟩,⟨bk_ aA⟩,⟨hs_⟩⟩
         ·replace c30:=Bool.eq_false_iff.mpr c30
          subst c30;replace H:=if_f_ H;have H':=ak_ H;clear H;try go_wp2
          replace aA:=ak_ (blk_drew aA.out);replace HB:=ak_ (below_drew1 HB.out);refine st5_ 17 tag_Check.tab5 tag_Check.bits5 aA (fun hHeld HT_ HW_=>?_);generalize wc.drew=w34 at aA HB hHeld ⊢
          iterate 6 (first|refine pu_ HT_ ?_|refine tk_ HT_ HW_ hHeld ?_)
          refine cg_ 6 (bmp 17 7) (some 54) Tryz.func55 #[.string aH] HT_ ?_
          with_reducible refine(tag_region.calls kj15 aH false _ A29.out).mono ?_
          rintro e w' ⟨rfl,⟨nd,rfl⟩⟩;refine⟨_,rfl,s5_ aA,fun hHeld=>nm_ ?_⟩
          iterate 10 (first|refine sk_ HT_ ?_|refine pu_ HT_ ?_)
          refine dg_ HT_ ?_;try go_wp2
          go_meet
          case rel=>exact ⟨_,(true),rr_,H',⟨by have:=HJ1.out;have:=HJ15.out;first|omega|exact Nat.le_refl _⟩,⟨bk_ aA⟩,⟨hs_⟩⟩
       case rest =>
        clear cU;obtain⟨kq,bZ,rfl,HA,HJ25,aA,HB⟩:=hcut;cases kq with
        |zero=>exact absurd HA.out (by simp [tag_Check.j2])
        | succ kj25 =>
         have H:=HA.out;clear HA;simp only [tag_Check.j2] at H;by_cases c35:bZ=true
         ·subst c35
          replace H:=it_ H;obtain rfl:=Option.some.inj H
          go_wp2
          go_ret
          exact⟨re_,hs_⟩
         ·replace c35 := Bool.eq_false_iff.mpr c35
          subst c35;replace H:=if_f_ H;by_cases c36:(aD.length:Int)>64
          ·rw [if_pos c36] at H
           have dK:decide (64<(aD.length:Int))=true:=decide_eq_true c36;have dL:decide (64<aD.length)=true:=decide_eq_true (by omega)
           clear c36;obtain rfl:=Option.some.inj H;obtain⟨fP,fQ,fR,fS,fT,fU,fV,fW,fX,fY⟩:=c5_ aA
           go_wp2
           go_ret
           exact⟨re_,hs_⟩
          ·rw [if_neg c36] at H
           have dK:decide (64<(aD.length:Int))=false:=decide_eq_false c36;have dL:decide (64<aD.length)=false:=decide_eq_false (by omega)
           clear c36;have H':=ak_ H;clear H;obtain⟨eA,eB,eC,eD,eE,eF,eG,eH,eI,eJ⟩:=c5_ aA
           go_wp2
           go_loopg [72] kj25 (fun kq v72 w'=>∃ (aJ:Int),v72=.int .i64 aJ∧Aside0 (tag_Check.l0 kq aD (aD.length:Int) aJ aF aG aH aD aB=some r)∧Aside0 (kq≤kj25)∧Aside0 (w'.heap[aR]?=some (.cells #[.string aF,.string aG,.string aH,(.slice aW aD.length aU),(.slice bC aB.length aV)] 25 (0,0)))∧Aside0 (Below w.heap.size w w'))
           case atStart=>exact ⟨(0),rr_,H',⟨Nat.le_refl _⟩,⟨bk_ aA⟩,⟨hs_⟩⟩
           case round =>
            clear H';clear dK dL eA eB eC eD eE eF eG eH eI eJ;obtain⟨aJ,rfl,HA,HK4,aA,HB⟩:=hrel;cases gk with
            |zero=>exact absurd HA.out (by simp [tag_Check.l0])
            | succ k4 =>
             have H:=HA.out;clear HA;simp only [tag_Check.l0] at H;by_cases c39:aJ<(aD.length:Int)
             ·rw [if_pos c39] at H
              have cX:decide (aJ<(aD.length:Int))=true:=decide_eq_true c39;clear c39;by_cases c40:0≤aJ
              ·rw [if_pos c40] at H
               have eK:decide (0≤aJ)=true:=decide_eq_true c40;clear c40;by_cases c41:aJ<(aD.length:Int)
               ·rw [if_pos c41] at H
                have eL:decide (aJ<(aD.length:Int))=true:=decide_eq_true c41;clear c41;have cY:=ak_ H;clear H;have cA:0≤(aJ:Int):=od_;have cB:aJ<(aD.length:Int):=od_;obtain⟨cZ,eM,cC⟩:=Kd.at_string cN.out aJ cA cB;cases eM;replace cC:=hx_ HB.out cC;replace cA:=eq_true cA;replace cB:=eq_true cB
                go_upto_region 12 with (fail)
                go_cut [85] (fun v85 wc=>∃ (kq:Nat) (cD:Bool),v85=.bool cD∧Aside0 (tag_Check.j4 kq aJ (rdOf ByteArray.empty aD aJ) aD (aD.length:Int) aJ cD aF aG aH aD aB=some r)∧Aside0 (kq≤k4)∧Aside0 (wc.heap[aR]?=some (.cells #[.string aF,.string aG,.string aH,(.slice (some cZ) aD.length aU),(.slice bC aB.length aV)] 25 (0,0)))∧Aside0 (Below w.heap.size w wc))
                case first=>
                 have H:=cY.out;clear cY;replace H:=Option.bind_eq_some_iff.mp H;obtain⟨cL,dM,H⟩:=H;try dsimp only at H
                 have A43:=ak_ dM;clear dM;by_cases c44:cL=true
                 ·subst c44
                  replace H:=it_ H;replace H:=Option.bind_eq_some_iff.mp H;obtain⟨bV,dN,H⟩:=H;try dsimp only at H
                  have A45:=ak_ dN;clear dN;have H':=ak_ H;clear H
                  go_wp2_with (first|((with_reducible refine gate_callee (f:=57) rfl ?_);refine gb_ (some 78) Tryz.func57 #[.string (rdOf ByteArray.empty aD aJ)] ?_;(with_reducible refine(tag_variant.calls k4 (rdOf ByteArray.empty aD aJ) true _ A43.out).mono ?_);rintro e w' ⟨rfl,⟨nd,rfl⟩⟩;refine⟨_,rfl,?_⟩)|(go_at_call 44;(with_reducible refine(tag_lower.calls (rdOf ByteArray.empty aD aJ) bV _ A45.out).mono ?_);rintro e w46 ⟨rfl,hb⟩;replace aA:=ak_ (bb_ aA hb);replace HB:=ak_ (below_step hs_ hb);try clear hb))
                  go_meet
                  case rel=>exact ⟨_,(((rdOf ByteArray.empty aD aJ).toList != bV.toList)),rr_,H',⟨by have:=HJ1.out;have:=HJ15.out;have:=HJ25.out;have:=HK4.out;first|omega|exact Nat.le_refl _⟩,⟨bk_ aA⟩,⟨hs_⟩⟩
                 ·replace c44:=Bool.eq_false_iff.mpr c44
                  subst c44;replace H:=if_f_ H;have H':=ak_ H;clear H
                  go_wp2_with (first|((with_reducible refine gate_callee (f:=57) rfl ?_);refine gb_ (some 78) Tryz.func57 #[.string (rdOf ByteArray.empty aD aJ)] ?_;(with_reducible refine(tag_variant.calls k4 (rdOf ByteArray.empty aD aJ) false _ A43.out).mono ?_);rintro e w' ⟨rfl,⟨nd,rfl⟩⟩;refine⟨_,rfl,?_⟩))
                  go_meet
                  case rel=>exact ⟨_,(true),rr_,H',⟨by have:=HJ1.out;have:=HJ15.out;have:=HJ25.out;have:=HK4.out;first|omega|exact Nat.le_refl _⟩,⟨bk_ aA⟩,⟨hs_⟩⟩
                case rest=>
                 clear cY;clear cX eK eL cC cA cB;obtain⟨kq,cD,rfl,HA,HJ41,aA,HB⟩:=hcut;cases kq with
                 |zero=>exact absurd HA.out (by simp [tag_Check.j4])
                 | succ kj41=>
                  have H:=HA.out;clear HA;simp only [tag_Check.j4] at H;by_cases c47:cD=true
                  ·subst c47
                   replace H:=it_ H;obtain rfl:=Option.some.inj H
                   go_wp2
                   go_ret
                   exact⟨re_,hs_⟩
                  ·replace c47:=Bool.eq_false_iff.mpr c47
                   subst c47;replace H:=if_f_ H;by_cases c48:aJ>0
                   ·rw [if_pos c48] at H
                    have eN:decide (0<aJ)=true:=decide_eq_true c48;clear c48;obtain⟨aS,hji49⟩:∃ j_:Int,(wrap64 (aJ - 1))=j_:=⟨_,rfl⟩;replace H:(if 0≤(aS) then(if (aS)<(aD.length:Int) then((tag_rising.f (rdOf ByteArray.empty aD (aS)) (rdOf ByteArray.empty aD aJ)).bind fun bA=>(if bA=0 then(tag_Check.l0 kj41 aD (aD.length:Int) (wrap64 (aJ+1)) aF aG aH aD aB) else(some bA))) else(none)) else(none))=some r:=by first|(rw [hji49] at H;exact H)|(simp only [hji49] at H ⊢;exact H)
                    have hji49w:(IntKind.i64.wrap (aJ - 1))=aS:=(i64_w _).trans hji49;by_cases c50:0≤(aS)
                    ·rw [if_pos c50] at H
                     have c50b0:decide (0≤(aS))=true:=decide_eq_true c50;clear c50;by_cases c51:(aS)<(aD.length:Int)
                     ·rw [if_pos c51] at H
                      have c51b0:decide ((aS)<(aD.length:Int))=true:=decide_eq_true c51;clear c51;replace H:=Option.bind_eq_some_iff.mp H;obtain⟨bA,dO,H⟩:=H;try dsimp only at H
                      have A52:=ak_ dO;clear dO;by_cases c53:bA=0
                      ·rw [if_pos c53] at H
                       obtain⟨eO,eP⟩:=eq2_ c53;clear c53;have H':=ak_ H;clear H;obtain⟨fZ,gA,gB,gC,gD,gE,gF,gG,gH,gI⟩:=c5_ aA;have bH:0≤((aS):Int):=od_;have bI:(aS)<(aD.length:Int):=od_;obtain⟨dA,dB,bJ⟩:=Kd.at_string cN.out (aS) bH bI;obtain rfl:cZ=dA:=(by injection dB)
                       replace bJ:=hx_ HB.out bJ;replace bH:=eq_true bH;replace bI:=eq_true bI
                       go_wp2_with (first|((with_reducible refine gate_callee (f:=58) rfl ?_);refine goesL_ (some 95) rfl rfl Tryz.func58 (by kernel_rfl) rfl #[.string (rdOf ByteArray.empty aD (aS)),.string (rdOf ByteArray.empty aD aJ)] rfl (by(try simp only [List.map_toArray,List.map_cons,List.map_nil]);first|done|(simp only [hji49];rfl)|rfl|(simp only [List.length_drop,List.length_take];rfl)) ?_;(with_reducible refine(tag_rising.calls (rdOf ByteArray.empty aD (aS)) (rdOf ByteArray.empty aD aJ) bA _ A52.out).mono ?_);rintro e w' ⟨rfl,⟨nd,rfl⟩⟩;refine⟨_,rfl,?_⟩))
                       go_roundg kj41
                       case measure=>have:=HJ1.out;have:=HJ15.out;have:=HJ25.out;have:=HK4.out;have:=HJ41.out;omega
                       case rel=>exact ⟨(wrap64 (aJ+1)),rr_,H',⟨by have:=HJ1.out;have:=HJ15.out;have:=HJ25.out;have:=HK4.out;have:=HJ41.out;omega⟩,⟨bk_ aA⟩,⟨hs_⟩⟩
                      ·rw [if_neg c53] at H
                       obtain⟨eO,eP⟩:=ne2_ c53;obtain rfl:=Option.some.inj H;obtain⟨gJ,gK,gL,gM,gN,gO,gP,gQ,gR,gS⟩:=c5_ aA;have bH:0≤((aS):Int):=od_;have bI:(aS)<(aD.length:Int):=od_;obtain⟨dA,dB,bJ⟩:=Kd.at_string cN.out (aS) bH bI;obtain rfl:cZ=dA:=(by injection dB)
                       replace bJ:=hx_ HB.out bJ;replace bH:=eq_true bH;replace bI:=eq_true bI
                       go_wp2_with (first|((with_reducible refine gate_callee (f:=58) rfl ?_);refine goesL_ (some 95) rfl rfl Tryz.func58 (by kernel_rfl) rfl #[.string (rdOf ByteArray.empty aD (aS)),.string (rdOf ByteArray.empty aD aJ)] rfl (by(try simp only [List.map_toArray,List.map_cons,List.map_nil]);first|done|(simp only [hji49];rfl)|rfl|(simp only [List.length_drop,List.length_take];rfl)) ?_;(with_reducible refine(tag_rising.calls (rdOf ByteArray.empty aD (aS)) (rdOf ByteArray.empty aD aJ) bA _ A52.out).mono ?_);rintro e w' ⟨rfl,⟨nd,rfl⟩⟩;refine⟨_,rfl,?_⟩))
                       go_ret
                       exact⟨by first|rfl|(simp [errW_none,errW_some] <;> rfl)|(simp only [← hji49];first|rfl|(simp [errW_none,errW_some] <;> rfl))|(simp [*,errW_none,errW_some] <;> rfl),hs_⟩
                     ·rw [if_neg c51] at H
                      exact absurd H (by simp)
                    ·rw [if_neg c50] at H
                     exact absurd H (by simp)
                   ·rw [if_neg c48] at H
                    have eN:decide (0<aJ)=false:=decide_eq_false c48;clear c48;have H':=ak_ H;clear H
                    go_wp2
                    go_roundg kj41
                    case measure=>have:=HJ1.out;have:=HJ15.out;have:=HJ25.out;have:=HK4.out;have:=HJ41.out;omega
                    case rel=>exact ⟨(wrap64 (aJ+1)),rr_,H',⟨by have:=HJ1.out;have:=HJ15.out;have:=HJ25.out;have:=HK4.out;have:=HJ41.out;omega⟩,⟨bk_ aA⟩,⟨hs_⟩⟩
               ·rw [if_neg c41] at H
                exact absurd H (by simp)
              ·rw [if_neg c40] at H
               exact absurd H (by simp)
             ·rw [if_neg c39] at H
              have cX:decide (aJ<(aD.length:Int))=false:=decide_eq_false c39;clear c39;by_cases c56:(aB.length:Int)>64
              ·rw [if_pos c56] at H
               have dP:decide (64<(aB.length:Int))=true:=decide_eq_true c56;have dQ:decide (64<aB.length)=true:=decide_eq_true (by omega)
               clear c56;obtain rfl:=Option.some.inj H;obtain⟨gT,gU,gV,gW,gX,gY,gZ,hA,hB,hC⟩:=c5_ aA
               go_wp2
               go_ret
               exact⟨re_,hs_⟩
              ·rw [if_neg c56] at H
               have dP:decide (64<(aB.length:Int))=false:=decide_eq_false c56;have dQ:decide (64<aB.length)=false:=decide_eq_false (by omega)
               clear c56;have H':=ak_ H;clear H;obtain⟨eQ,eR,eS,eT,eU,eV,eW,eX,eY,eZ⟩:=c5_ aA
               go_wp2
               go_loopg [107] k4 (fun kq fA w'=>∃ (aC:Int),fA=.int .i64 aC∧Aside0 (tag_Check.l1 kq aB (aB.length:Int) aC aF aG aH aD aB=some r)∧Aside0 (kq≤k4)∧Aside0 (w'.heap[aR]?=some (.cells #[.string aF,.string aG,.string aH,(.slice aW aD.length aU),(.slice bC aB.length aV)] 25 (0,0)))∧Aside0 (Below w.heap.size w w'))
               case atStart=>exact ⟨(0),rr_,H',⟨Nat.le_refl _⟩,⟨bk_ aA⟩,⟨hs_⟩⟩
               case round =>
                clear H';clear cX dP dQ eQ eR eS eT eU eV eW eX eY eZ;obtain⟨aC,rfl,HA,HK5,aA,HB⟩:=hrel;cases gk with
                |zero=>exact absurd HA.out (by simp [tag_Check.l1])
                | succ k5 =>
                 have H:=HA.out;clear HA;simp only [tag_Check.l1] at H;by_cases c59:aC<(aB.length:Int)
                 ·rw [if_pos c59] at H
                  have dR:decide (aC<(aB.length:Int))=true:=decide_eq_true c59;clear c59;by_cases c60:0≤aC
                  ·rw [if_pos c60] at H
                   have fB:decide (0≤aC)=true:=decide_eq_true c60;clear c60;by_cases c61:aC<(aB.length:Int)
                   ·rw [if_pos c61] at H
                    have fC:decide (aC<(aB.length:Int))=true:=decide_eq_true c61;clear c61;have dC:=ak_ H;clear H;have cE:0≤(aC:Int):=od_;have cF:aC<(aB.length:Int):=od_;obtain⟨aX,fD,cG,cH⟩:=at_T39 cO.out aC cE cF;cases fD;replace cG:=hx_ HB.out cG;replace cH:=hx_ HB.out cH;replace cE:=eq_true cE;replace cF:=eq_true cF
                    go_upto_region 24 with (first|((with_reducible refine gate_dst (N:=7) rfl ?_);refine bx_ 7 #[.string ⟨#[]⟩,.string ⟨#[]⟩] 39 ?_;intro aI hg w63 hbox hb;have aE:=ak_ (hbox);have GW189:=ak_ (gw_ hg);have GE189:=ak_ (gw_ hg);replace HB:=ak_ (below_step hs_ hb);have bK:=ak_ (nl_ aA hg);have fE:=ak_ (ng_ aA hg);replace aA:=ak_ (bb_ aA hb);clear hb hbox hg;have hnb64:=fE.out;have hnc64:=bK.out;have fF:w63.cell? ⟨aI,0,none⟩=some (.string ⟨#[]⟩):=(blk_cell aE.out 0).trans rfl;have fG:w63.cell? ⟨aI,1,none⟩=some (.string ⟨#[]⟩):=(blk_cell aE.out 1).trans rfl;have fH:=blk_frozen aE.out 0;have fI:=blk_frozen aE.out 1))
                    (try simp only [Act.put,List.setIfInBounds_toArray,List.set_cons_zero,List.set_cons_succ])
                    go_cut [129] (fun fJ wc=>∃ (kq:Nat) (cI:Bool),fJ=.bool cI∧Aside0 (tag_Check.j6 kq aC aB (aB.length:Int) aC cI aF aG aH aD aB ((rd_T39 aB aC).f0) ((rd_T39 aB aC).f1)=some r)∧Aside0 (kq≤k5)∧Aside0 (wc.heap[aR]?=some (.cells #[.string aF,.string aG,.string aH,(.slice aW aD.length aU),(.slice (some aX) aB.length aV)] 25 (0,0)))∧Aside0 (wc.heap[aI]?=some (.cells #[.string ((rd_T39 aB aC).f0),.string ((rd_T39 aB aC).f1)] 39 (0,0)))∧Aside0 (Below w.heap.size w wc))
                    case first=>
                     have H:=dC.out;clear dC;replace H:=Option.bind_eq_some_iff.mp H;obtain⟨cM,dS,H⟩:=H;try dsimp only at H
                     have A66:=ak_ dS;clear dS;by_cases c67:cM=true
                     ·subst c67
                      replace H:=it_ H;replace H:=Option.bind_eq_some_iff.mp H;obtain⟨bN,dT,H⟩:=H;try dsimp only at H
                      have A68:=ak_ dT;clear dT;by_cases c69:((rd_T39 aB aC).f0).toList=bN.toList
                      ·rw [if_pos c69] at H
                       obtain⟨bS,dD⟩:=eq2_ c69;clear c69
                       (first|rw [bS]|rw [dD]|rw [fK]|(simp only [i64_w,i32_w];rw [bS])|skip)
                       (try simp only [Bool.not_true,Bool.not_false])
                       replace H:=Option.bind_eq_some_iff.mp H;obtain⟨bW,dU,H⟩:=H;try dsimp only at H
                       have A70:=ak_ dU;clear dU;have H':=ak_ H;clear H;try go_wp2
                       have n0_:Aside0 (((w63.setCell ⟨aI,0,none⟩ (.string ((rd_T39 aB aC).f0))).setCell ⟨aI,1,none⟩ (.string ((rd_T39 aB aC).f1))).heap[aR]?=some (.cells #[.string aF,.string aG,.string aH,.slice aW aD.length aU,.slice (some aX) aB.length aV] 25 (0,0))):=⟨by refine blk_far ?_ bK.out _;refine blk_far ?_ bK.out _;(with_reducible repeat (first|refine blk_drewN ?_ _|refine blk_drew ?_|refine blk_alloc ?_ _));exact aA.out⟩
                       have n1_:Aside0 (((w63.setCell ⟨aI,0,none⟩ (.string ((rd_T39 aB aC).f0))).setCell ⟨aI,1,none⟩ (.string ((rd_T39 aB aC).f1))).heap[aI]?=some (.cells #[.string ((rd_T39 aB aC).f0),.string ((rd_T39 aB aC).f1)] 39 (0,0))):=⟨by refine blk_put (cs:=#[.string ((rd_T39 aB aC).f0),.string ⟨#[]⟩]) ?_ 1 _ rfl;refine blk_put (cs:=#[.string ⟨#[]⟩,.string ⟨#[]⟩]) ?_ 0 _ rfl;(with_reducible repeat (first|refine blk_drewN ?_ _|refine blk_drew ?_|refine blk_alloc ?_ _));exact aE.out⟩
                       have n2_:Aside0 (Below w.heap.size w ((w63.setCell ⟨aI,0,none⟩ (.string ((rd_T39 aB aC).f0))).setCell ⟨aI,1,none⟩ (.string ((rd_T39 aB aC).f1)))):=⟨hs_⟩
                       (try clear aA)
                       (try clear aE)
                       (try clear HB)
                       generalize ((w63.setCell ⟨aI,0,none⟩ (.string ((rd_T39 aB aC).f0))).setCell ⟨aI,1,none⟩ (.string ((rd_T39 aB aC).f1)))=w71 at n0_ n1_ n2_ ⊢;have aA:=n0_;have aE:=n1_;have HB:=n2_;clear n0_ n1_ n2_;replace aA:=ak_ (blk_drew aA.out);replace aE:=ak_ (blk_drew aE.out);replace HB:=ak_ (below_drew1 HB.out);refine start_ (n:=18) (S:=fun w'=>w'.cell? ⟨aI,0,none⟩=some (.string ((rd_T39 aB aC).f0))∧w'.cell? ⟨aI,1,none⟩=some (.string ((rd_T39 aB aC).f1))) (ds:=[]) (bmp 18 0) (by kernel_rfl) rfl rfl ⟨(blk_cell aE.out 0).trans rfl,(blk_cell aE.out 1).trans rfl⟩ (fun hHeld=>?_);refine with_tabW tag_Check.tab24 tag_Check.bits24 (fun HT_ HW_=>?_)
                       generalize w71.drew=w72 at aA aE HB hHeld ⊢
                       iterate 2 (first|refine pu_ HT_ ?_|refine tk_ HT_ HW_ hHeld ?_)
                       refine one_ (i:=2) (N:=some 114) (bmp 18 3) rfl rfl (one_of HT_.out (by kernel_rfl)) (by decide) (fun K hK=>?_)
                       refine goes_ Tryz.func59 (by kernel_rfl) rfl #[.string ((rd_T39 aB aC).f0),.int .i64 2,.int .i64 2] (by rfl) rfl rfl (by(try simp only [List.map_toArray,List.map_cons,List.map_nil]);first|done|rfl|(simp only [List.length_drop,List.length_take];rfl)) ?_
                       with_reducible refine(tag_signs.calls k5 ((rd_T39 aB aC).f0) 2 2 true _ A66.out).mono ?_
                       rintro e w' ⟨rfl,⟨nd,rfl⟩⟩;refine⟨_,rfl,?_⟩;refine hK.out _ _ ⟨(blk_cell aE.out 0).trans rfl,(blk_cell aE.out 1).trans rfl⟩ (fun hHeld=>?_);clear hK K;refine norm_ (a':=?_) ?_ ?_
                       rotate_left
                       ·show Act.put _ (some 114) _=_
                        simp only [Act.put,List.setIfInBounds_toArray,List.set_cons_zero,List.set_cons_succ,i64_w,i32_w];rfl
                       iterate 3 (refine pu_ HT_ ?_)
                       refine pg_ 7 (bm 18 191) HT_ ?_;refine tg_ 6 (bmp 18 8) HT_ HW_ hHeld ?_;refine tk_ HT_ HW_ hHeld ?_;refine one_ (i:=9) (N:=some 121) (bmp 18 10) rfl rfl (one_of HT_.out (by kernel_rfl)) (by decide) (fun K hK=>?_)
                       refine goes_ Tryz.func44 (by kernel_rfl) rfl #[.string ((rd_T39 aB aC).f0)] (by rfl) rfl rfl (by(try simp only [List.map_toArray,List.map_cons,List.map_nil]);first|done|rfl|(simp only [List.length_drop,List.length_take];rfl)) ?_
                       with_reducible refine(tag_lower.calls ((rd_T39 aB aC).f0) bN _ A68.out).mono ?_
                       rintro e w73 ⟨rfl,hb⟩;refine⟨_,rfl,?_⟩;replace aA:=ak_ (bb_ aA hb);replace aE:=ak_ (bb_ aE hb);replace HB:=ak_ (below_step hs_ hb)
                       (try clear hb)
                       (try clear hb2)
                       (try clear hk)
                       (try clear hi)
                       refine hK.out _ _ ⟨(blk_cell aE.out 0).trans rfl,(blk_cell aE.out 1).trans rfl⟩ (fun hHeld=>?_);clear hK K;refine norm_ (a':=?_) ?_ ?_
                       rotate_left
                       ·show Act.put _ (some 121) _=_
                        simp only [Act.put,List.setIfInBounds_toArray,List.set_cons_zero,List.set_cons_succ,i64_w,i32_w];rfl
                       iterate 5 (first|refine pu_ HT_ ?_|refine tk_ HT_ HW_ hHeld ?_)
                       refine one_ (i:=15) (N:=some 127) (bmp 18 16) rfl rfl (one_of HT_.out (by kernel_rfl)) (by decide) (fun K hK=>?_)
                       refine goes_ Tryz.func60 (by kernel_rfl) rfl #[.string ((rd_T39 aB aC).f1)] (by rfl) rfl rfl (by(try simp only [List.map_toArray,List.map_cons,List.map_nil]);first|done|rfl|(simp only [List.length_drop,List.length_take];rfl)) ?_
                       with_reducible refine(tag_valued.calls k5 ((rd_T39 aB aC).f1) bW _ (Tbl.below HT.out hs_) A70.out).mono ?_
                       rintro e w74 ⟨rfl,hb⟩;refine⟨_,rfl,?_⟩;replace aA:=ak_ (bb_ aA hb);replace aE:=ak_ (bb_ aE hb);replace HB:=ak_ (below_step hs_ hb)
                       (try clear hb)
                       (try clear hb2)
                       (try clear hk)
                       (try clear hi)
                       refine hK.out _ _ ⟨(blk_cell aE.out 0).trans rfl,(blk_cell aE.out 1).trans rfl⟩ (fun hHeld=>?_);clear hK K;refine norm_ (a':=?_) ?_ ?_
                       rotate_left
                       ·show Act.put _ (some 127) _=_
                        simp only [Act.put,List.setIfInBounds_toArray,List.set_cons_zero,List.set_cons_succ,i64_w,i32_w];rfl
                       iterate 2 (refine pu_ HT_ ?_)
                       refine dg_ HT_ ?_;try go_wp2
                       go_meet
                       case rel=>exact ⟨_,(!bW),rr_,H',⟨by have:=HJ1.out;have:=HJ15.out;have:=HJ25.out;have:=HK4.out;have:=HK5.out;first|omega|exact Nat.le_refl _⟩,⟨bk_ aA⟩,⟨bk_ aE⟩,⟨hs_⟩⟩
                      ·rw [if_neg c69] at H
                       obtain⟨bS,dD⟩:=ne2_ c69
                       (first|rw [bS]|rw [dD]|rw [fK]|(simp only [i64_w,i32_w];rw [bS])|skip)
                       (try simp only [Bool.not_true,Bool.not_false])
                       have H':=ak_ H;clear H;try go_wp2
                       have n0_:Aside0 (((w63.setCell ⟨aI,0,none⟩ (.string ((rd_T39 aB aC).f0))).setCell ⟨aI,1,none⟩ (.string ((rd_T39 aB aC).f1))).heap[aR]?=some (.cells #[.string aF,.string aG,.string aH,.slice aW aD.length aU,.slice (some aX) aB.length aV] 25 (0,0))):=⟨by refine blk_far ?_ bK.out _;refine blk_far ?_ bK.out _;(with_reducible repeat (first|refine blk_drewN ?_ _|refine blk_drew ?_|refine blk_alloc ?_ _));exact aA.out⟩
                       have n1_:Aside0 (((w63.setCell ⟨aI,0,none⟩ (.string ((rd_T39 aB aC).f0))).setCell ⟨aI,1,none⟩ (.string ((rd_T39 aB aC).f1))).heap[aI]?=some (.cells #[.string ((rd_T39 aB aC).f0),.string ((rd_T39 aB aC).f1)] 39 (0,0))):=⟨by refine blk_put (cs:=#[.string ((rd_T39 aB aC).f0),.string ⟨#[]⟩]) ?_ 1 _ rfl;refine blk_put (cs:=#[.string ⟨#[]⟩,.string ⟨#[]⟩]) ?_ 0 _ rfl;(with_reducible repeat (first|refine blk_drewN ?_ _|refine blk_drew ?_|refine blk_alloc ?_ _));exact aE.out⟩
                       have n2_:Aside0 (Below w.heap.size w ((w63.setCell ⟨aI,0,none⟩ (.string ((rd_T39 aB aC).f0))).setCell ⟨aI,1,none⟩ (.string ((rd_T39 aB aC).f1)))):=⟨hs_⟩
                       (try clear aA)
                       (try clear aE)
                       (try clear HB)
                       generalize ((w63.setCell ⟨aI,0,none⟩ (.string ((rd_T39 aB aC).f0))).setCell ⟨aI,1,none⟩ (.string ((rd_T39 aB aC).f1)))=w75 at n0_ n1_ n2_ ⊢;have aA:=n0_;have aE:=n1_;have HB:=n2_;clear n0_ n1_ n2_;replace aA:=ak_ (blk_drew aA.out);replace aE:=ak_ (blk_drew aE.out);replace HB:=ak_ (below_drew1 HB.out);refine start_ (n:=18) (S:=fun w'=>w'.cell? ⟨aI,0,none⟩=some (.string ((rd_T39 aB aC).f0))∧w'.cell? ⟨aI,1,none⟩=some (.string ((rd_T39 aB aC).f1))) (ds:=[]) (bmp 18 0) (by kernel_rfl) rfl rfl ⟨(blk_cell aE.out 0).trans rfl,(blk_cell aE.out 1).trans rfl⟩ (fun hHeld=>?_);refine with_tabW tag_Check.tab24 tag_Check.bits24 (fun HT_ HW_=>?_)
                       generalize w75.drew=w76 at aA aE HB hHeld ⊢
                       iterate 2 (first|refine pu_ HT_ ?_|refine tk_ HT_ HW_ hHeld ?_)
                       refine one_ (i:=2) (N:=some 114) (bmp 18 3) rfl rfl (one_of HT_.out (by kernel_rfl)) (by decide) (fun K hK=>?_)
                       refine goes_ Tryz.func59 (by kernel_rfl) rfl #[.string ((rd_T39 aB aC).f0),.int .i64 2,.int .i64 2] (by rfl) rfl rfl (by(try simp only [List.map_toArray,List.map_cons,List.map_nil]);first|done|rfl|(simp only [List.length_drop,List.length_take];rfl)) ?_
                       with_reducible refine(tag_signs.calls k5 ((rd_T39 aB aC).f0) 2 2 true _ A66.out).mono ?_
                       rintro e w' ⟨rfl,⟨nd,rfl⟩⟩;refine⟨_,rfl,?_⟩;refine hK.out _ _ ⟨(blk_cell aE.out 0).trans rfl,(blk_cell aE.out 1).trans rfl⟩ (fun hHeld=>?_);clear hK K;refine norm_ (a':=?_) ?_ ?_
                       rotate_left
                       ·show Act.put _ (some 114) _=_
                        simp only [Act.put,List.setIfInBounds_toArray,List.set_cons_zero,List.set_cons_succ,i64_w,i32_w];rfl
                       iterate 3 (refine pu_ HT_ ?_)
                       refine pg_ 7 (bm 18 191) HT_ ?_;refine tg_ 6 (bmp 18 8) HT_ HW_ hHeld ?_;refine tk_ HT_ HW_ hHeld ?_;refine one_ (i:=9) (N:=some 121) (bmp 18 10) rfl rfl (one_of HT_.out (by kernel_rfl)) (by decide) (fun K hK=>?_)
                       refine goes_ Tryz.func44 (by kernel_rfl) rfl #[.string ((rd_T39 aB aC).f0)] (by rfl) rfl rfl (by(try simp only [List.map_toArray,List.map_cons,List.map_nil]);first|done|rfl|(simp only [List.length_drop,List.length_take];rfl)) ?_
                       with_reducible refine(tag_lower.calls ((rd_T39 aB aC).f0) bN _ A68.out).mono ?_
                       rintro e w77 ⟨rfl,hb⟩;refine⟨_,rfl,?_⟩;replace aA:=ak_ (bb_ aA hb);replace aE:=ak_ (bb_ aE hb);replace HB:=ak_ (below_step hs_ hb)
                       (try clear hb)
                       (try clear hb2)
                       (try clear hk)
                       (try clear hi)
                       refine hK.out _ _ ⟨(blk_cell aE.out 0).trans rfl,(blk_cell aE.out 1).trans rfl⟩ (fun hHeld=>?_);clear hK K;refine norm_ (a':=?_) ?_ ?_
                       rotate_left
                       ·show Act.put _ (some 121) _=_
                        simp only [Act.put,List.setIfInBounds_toArray,List.set_cons_zero,List.set_cons_succ,i64_w,i32_w];rfl
                       iterate 8 (first|refine sk_ HT_ ?_|refine pu_ HT_ ?_)
                       refine dg_ HT_ ?_;try go_wp2
                       go_meet
                       case rel=>exact ⟨_,(true),rr_,H',⟨by have:=HJ1.out;have:=HJ15.out;have:=HJ25.out;have:=HK4.out;have:=HK5.out;first|omega|exact Nat.le_refl _⟩,⟨bk_ aA⟩,⟨bk_ aE⟩,⟨hs_⟩⟩
                     ·replace c67:=Bool.eq_false_iff.mpr c67
                      subst c67;replace H:=if_f_ H;have H':=ak_ H;clear H;try go_wp2
                      have n0_:Aside0 (((w63.setCell ⟨aI,0,none⟩ (.string ((rd_T39 aB aC).f0))).setCell ⟨aI,1,none⟩ (.string ((rd_T39 aB aC).f1))).heap[aR]?=some (.cells #[.string aF,.string aG,.string aH,.slice aW aD.length aU,.slice (some aX) aB.length aV] 25 (0,0))):=⟨by refine blk_far ?_ bK.out _;refine blk_far ?_ bK.out _;(with_reducible repeat (first|refine blk_drewN ?_ _|refine blk_drew ?_|refine blk_alloc ?_ _));exact aA.out⟩
                      have n1_:Aside0 (((w63.setCell ⟨aI,0,none⟩ (.string ((rd_T39 aB aC).f0))).setCell ⟨aI,1,none⟩ (.string ((rd_T39 aB aC).f1))).heap[aI]?=some (.cells #[.string ((rd_T39 aB aC).f0),.string ((rd_T39 aB aC).f1)] 39 (0,0))):=⟨by refine blk_put (cs:=#[.string ((rd_T39 aB aC).f0),.string ⟨#[]⟩]) ?_ 1 _ rfl;refine blk_put (cs:=#[.string ⟨#[]⟩,.string ⟨#[]⟩]) ?_ 0 _ rfl;(with_reducible repeat (first|refine blk_drewN ?_ _|refine blk_drew ?_|refine blk_alloc ?_ _));exact aE.out⟩
                      have n2_:Aside0 (Below w.heap.size w ((w63.setCell ⟨aI,0,none⟩ (.string ((rd_T39 aB aC).f0))).setCell ⟨aI,1,none⟩ (.string ((rd_T39 aB aC).f1)))):=⟨hs_⟩
                      (try clear aA)
                      (try clear aE)
                      (try clear HB)
                      generalize ((w63.setCell ⟨aI,0,none⟩ (.string ((rd_T39 aB aC).f0))).setCell ⟨aI,1,none⟩ (.string ((rd_T39 aB aC).f1)))=w78 at n0_ n1_ n2_ ⊢;have aA:=n0_;have aE:=n1_;have HB:=n2_;clear n0_ n1_ n2_;replace aA:=ak_ (blk_drew aA.out);replace aE:=ak_ (blk_drew aE.out);replace HB:=ak_ (below_drew1 HB.out);refine start_ (n:=18) (S:=fun w'=>w'.cell? ⟨aI,0,none⟩=some (.string ((rd_T39 aB aC).f0))∧w'.cell? ⟨aI,1,none⟩=some (.string ((rd_T39 aB aC).f1))) (ds:=[]) (bmp 18 0) (by kernel_rfl) rfl rfl ⟨(blk_cell aE.out 0).trans rfl,(blk_cell aE.out 1).trans rfl⟩ (fun hHeld=>?_);refine with_tabW tag_Check.tab24 tag_Check.bits24 (fun HT_ HW_=>?_)
                      generalize w78.drew=w79 at aA aE HB hHeld ⊢
                      iterate 2 (first|refine pu_ HT_ ?_|refine tk_ HT_ HW_ hHeld ?_)
                      refine one_ (i:=2) (N:=some 114) (bmp 18 3) rfl rfl (one_of HT_.out (by kernel_rfl)) (by decide) (fun K hK=>?_)
                      refine goes_ Tryz.func59 (by kernel_rfl) rfl #[.string ((rd_T39 aB aC).f0),.int .i64 2,.int .i64 2] (by rfl) rfl rfl (by(try simp only [List.map_toArray,List.map_cons,List.map_nil]);first|done|rfl|(simp only [List.length_drop,List.length_take];rfl)) ?_
                      with_reducible refine(tag_signs.calls k5 ((rd_T39 aB aC).f0) 2 2 false _ A66.out).mono ?_
                      rintro e w' ⟨rfl,⟨nd,rfl⟩⟩;refine⟨_,rfl,?_⟩;refine hK.out _ _ ⟨(blk_cell aE.out 0).trans rfl,(blk_cell aE.out 1).trans rfl⟩ (fun hHeld=>?_);clear hK K;refine norm_ (a':=?_) ?_ ?_
                      rotate_left
                      ·show Act.put _ (some 114) _=_
                       simp only [Act.put,List.setIfInBounds_toArray,List.set_cons_zero,List.set_cons_succ,i64_w,i32_w];rfl
                      iterate 15 (first|refine sk_ HT_ ?_|refine pu_ HT_ ?_)
                      refine dg_ HT_ ?_;try go_wp2
                      go_meet
                      case rel=>exact ⟨_,(true),rr_,H',⟨by have:=HJ1.out;have:=HJ15.out;have:=HJ25.out;have:=HK4.out;have:=HK5.out;first|omega|exact Nat.le_refl _⟩,⟨bk_ aA⟩,⟨bk_ aE⟩,⟨hs_⟩⟩
                    case rest=>
                     clear dC;clear dR fB fC fF fG fH fI cG cH cE cF;obtain⟨kq,cI,rfl,HA,HJ61,aA,aE,HB⟩:=hcut;cases kq with
                     |zero=>exact absurd HA.out (by simp [tag_Check.j6])
                     | succ kj61=>
                      have H:=HA.out;clear HA;simp only [tag_Check.j6] at H;by_cases c80:cI=true
                      ·subst c80
                       replace H:=it_ H;obtain rfl:=Option.some.inj H
                       go_wp2
                       go_ret
                       exact⟨re_,hs_⟩
                      ·replace c80:=Bool.eq_false_iff.mpr c80
                       subst c80;replace H:=if_f_ H;by_cases c81:aC>0
                       ·rw [if_pos c81] at H
                        have fL:decide (0<aC)=true:=decide_eq_true c81;clear c81;obtain⟨aM,hji82⟩:∃ j_:Int,(wrap64 (aC - 1))=j_:=⟨_,rfl⟩;replace H:(if 0≤(aM) then(if (aM)<(aB.length:Int) then((tag_rising.f ((rd_T39 aB (aM)).f0) ((rd_T39 aB aC).f0)).bind fun bB=>(if bB=0 then(tag_Check.l1 kj61 aB (aB.length:Int) (wrap64 (aC+1)) aF aG aH aD aB) else(some bB))) else(none)) else(none))=some r:=by first|(rw [hji82] at H;exact H)|(simp only [hji82] at H ⊢;exact H)
                        have hji82w:(IntKind.i64.wrap (aC - 1))=aM:=(i64_w _).trans hji82;by_cases c83:0≤(aM)
                        ·rw [if_pos c83] at H
                         have c83b0:decide (0≤(aM))=true:=decide_eq_true c83;clear c83;by_cases c84:(aM)<(aB.length:Int)
                         ·rw [if_pos c84] at H
                          have c84b0:decide ((aM)<(aB.length:Int))=true:=decide_eq_true c84;clear c84;replace H:=Option.bind_eq_some_iff.mp H;obtain⟨bB,dV,H⟩:=H;try dsimp only at H
                          have A85:=ak_ dV;clear dV;by_cases c86:bB=0
                          ·rw [if_pos c86] at H
                           obtain⟨fM,fN⟩:=eq2_ c86;clear c86;have H':=ak_ H;clear H;try go_wp2
                           replace aA:=ak_ (blk_drew aA.out);replace aE:=ak_ (blk_drew aE.out);replace HB:=ak_ (below_drew1 HB.out);have bL:0≤((aM):Int):=od_;have bM:(aM)<(aB.length:Int):=od_;obtain⟨dE,dF,aY,aZ⟩:=at_T39 cO.out (aM) bL bM;have bD:=aZ;have bE:=aY;obtain rfl:aX=dE:=(by injection dF)
                           replace aY:=hx_ HB.out aY;replace aZ:=hx_ HB.out aZ;replace bL:=eq_true bL;replace bM:=eq_true bM;refine start_ (n:=11) (S:=fun w'=>w'.cell? ⟨aR,0,none⟩=some (.string aF)∧w'.cell? ⟨aR,1,none⟩=some (.string aG)∧w'.cell? ⟨aR,2,none⟩=some (.string aH)∧w'.cell? ⟨aR,3,none⟩=some (.slice aW aD.length aU)∧w'.cell? ⟨aR,4,none⟩=some (.slice (some aX) aB.length aV)∧w'.cell? ⟨aI,0,none⟩=some (.string ((rd_T39 aB aC).f0))∧w'.cell? ⟨aI,1,none⟩=some (.string ((rd_T39 aB aC).f1))∧w'.cell? (aX.add (((aM)).toNat*2))=some (.string ((rd_T39 aB (aM)).f0))∧w'.cell? ⟨(aX.add (((aM)).toNat*2)).block,(aX.add (((aM)).toNat*2)).off+1,none⟩=some (.string ((rd_T39 aB (aM)).f1))) (ds:=[]) (bmp 11 0) (by kernel_rfl) rfl rfl ⟨(blk_cell aA.out 0).trans rfl,(blk_cell aA.out 1).trans rfl,(blk_cell aA.out 2).trans rfl,(blk_cell aA.out 3).trans rfl,(blk_cell aA.out 4).trans rfl,(blk_cell aE.out 0).trans rfl,(blk_cell aE.out 1).trans rfl,(hx_ HB.out bE :),(hx_ HB.out bD :)⟩ (fun hHeld=>?_);refine with_tabW tag_Check.tab27 tag_Check.bits27 (fun HT_ HW_=>?_)
                           generalize wc.drew=w87 at aA aE HB aY aZ hHeld ⊢;refine pu_ HT_ ?_;refine pg_ 2 (bm 11 5) HT_ ?_;refine pg_ 3 (bm 11 13) HT_ ?_;refine pg_ 7 (bm 11 141) HT_ ?_;refine tg_ 1 (bm 11 143) HT_ HW_ hHeld ?_;refine pg_ 4 (bm 11 159) HT_ ?_;refine pg_ 5 (bm 11 191) HT_ ?_;refine tg_ 6 (bmp 11 8) HT_ HW_ hHeld ?_;refine tk_ HT_ HW_ hHeld ?_;refine one_ (i:=9) (N:=some 141) (bmp 11 10) rfl rfl (one_of HT_.out (by kernel_rfl)) (by decide) (fun K hK=>?_)
                           refine goes_ Tryz.func58 (by kernel_rfl) rfl #[.string ((rd_T39 aB (aM)).f0),.string ((rd_T39 aB aC).f0)] (by rfl) rfl rfl (by(try simp only [List.map_toArray,List.map_cons,List.map_nil]);first|done|(simp only [hji82];rfl)|rfl|(simp only [List.length_drop,List.length_take];rfl)) ?_
                           with_reducible refine(tag_rising.calls ((rd_T39 aB (aM)).f0) ((rd_T39 aB aC).f0) bB _ A85.out).mono ?_
                           rintro e w' ⟨rfl,⟨nd,rfl⟩⟩;refine⟨_,rfl,?_⟩;refine hK.out _ _ ⟨(blk_cell aA.out 0).trans rfl,(blk_cell aA.out 1).trans rfl,(blk_cell aA.out 2).trans rfl,(blk_cell aA.out 3).trans rfl,(blk_cell aA.out 4).trans rfl,(blk_cell aE.out 0).trans rfl,(blk_cell aE.out 1).trans rfl,(hx_ HB.out bE :),(hx_ HB.out bD :)⟩ (fun hHeld=>?_);clear hK K;refine norm_ (a':=?_) ?_ ?_
                           rotate_left
                           ·show Act.put _ (some 141) _=_
                            simp only [Act.put,List.setIfInBounds_toArray,List.set_cons_zero,List.set_cons_succ,i64_w,i32_w];rfl
                           refine pu_ HT_ ?_;refine dg_ HT_ ?_;try go_wp2
                           go_roundg kj61
                           case measure=>have:=HJ1.out;have:=HJ15.out;have:=HJ25.out;have:=HK4.out;have:=HK5.out;have:=HJ61.out;omega
                           case rel=>exact ⟨(wrap64 (aC+1)),rr_,H',⟨by have:=HJ1.out;have:=HJ15.out;have:=HJ25.out;have:=HK4.out;have:=HK5.out;have:=HJ61.out;omega⟩,⟨bk_ aA⟩,⟨hs_⟩⟩
                          ·rw [if_neg c86] at H
                           obtain⟨fM,fN⟩:=ne2_ c86;obtain rfl:=Option.some.inj H;try go_wp2
                           replace aA:=ak_ (blk_drew aA.out);replace aE:=ak_ (blk_drew aE.out);replace HB:=ak_ (below_drew1 HB.out);have bL:0≤((aM):Int):=od_;have bM:(aM)<(aB.length:Int):=od_;obtain⟨dE,dF,aY,aZ⟩:=at_T39 cO.out (aM) bL bM;have bD:=aZ;have bE:=aY;obtain rfl:aX=dE:=(by injection dF)
                           replace aY:=hx_ HB.out aY;replace aZ:=hx_ HB.out aZ;replace bL:=eq_true bL;replace bM:=eq_true bM;refine start_ (n:=11) (S:=fun w'=>w'.cell? ⟨aR,0,none⟩=some (.string aF)∧w'.cell? ⟨aR,1,none⟩=some (.string aG)∧w'.cell? ⟨aR,2,none⟩=some (.string aH)∧w'.cell? ⟨aR,3,none⟩=some (.slice aW aD.length aU)∧w'.cell? ⟨aR,4,none⟩=some (.slice (some aX) aB.length aV)∧w'.cell? ⟨aI,0,none⟩=some (.string ((rd_T39 aB aC).f0))∧w'.cell? ⟨aI,1,none⟩=some (.string ((rd_T39 aB aC).f1))∧w'.cell? (aX.add (((aM)).toNat*2))=some (.string ((rd_T39 aB (aM)).f0))∧w'.cell? ⟨(aX.add (((aM)).toNat*2)).block,(aX.add (((aM)).toNat*2)).off+1,none⟩=some (.string ((rd_T39 aB (aM)).f1))) (ds:=[]) (bmp 11 0) (by kernel_rfl) rfl rfl ⟨(blk_cell aA.out 0).trans rfl,(blk_cell aA.out 1).trans rfl,(blk_cell aA.out 2).trans rfl,(blk_cell aA.out 3).trans rfl,(blk_cell aA.out 4).trans rfl,(blk_cell aE.out 0).trans rfl,(blk_cell aE.out 1).trans rfl,(hx_ HB.out bE :),(hx_ HB.out bD :)⟩ (fun hHeld=>?_);refine with_tabW tag_Check.tab27 tag_Check.bits27 (fun HT_ HW_=>?_)
                           generalize wc.drew=w88 at aA aE HB aY aZ hHeld ⊢;refine pu_ HT_ ?_;refine pg_ 2 (bm 11 5) HT_ ?_;refine pg_ 3 (bm 11 13) HT_ ?_;refine pg_ 7 (bm 11 141) HT_ ?_;refine tg_ 1 (bm 11 143) HT_ HW_ hHeld ?_;refine pg_ 4 (bm 11 159) HT_ ?_;refine pg_ 5 (bm 11 191) HT_ ?_;refine tg_ 6 (bmp 11 8) HT_ HW_ hHeld ?_;refine tk_ HT_ HW_ hHeld ?_;refine one_ (i:=9) (N:=some 141) (bmp 11 10) rfl rfl (one_of HT_.out (by kernel_rfl)) (by decide) (fun K hK=>?_)
                           refine goes_ Tryz.func58 (by kernel_rfl) rfl #[.string ((rd_T39 aB (aM)).f0),.string ((rd_T39 aB aC).f0)] (by rfl) rfl rfl (by(try simp only [List.map_toArray,List.map_cons,List.map_nil]);first|done|(simp only [hji82];rfl)|rfl|(simp only [List.length_drop,List.length_take];rfl)) ?_
                           with_reducible refine(tag_rising.calls ((rd_T39 aB (aM)).f0) ((rd_T39 aB aC).f0) bB _ A85.out).mono ?_
                           rintro e w' ⟨rfl,⟨nd,rfl⟩⟩;refine⟨_,rfl,?_⟩;refine hK.out _ _ ⟨(blk_cell aA.out 0).trans rfl,(blk_cell aA.out 1).trans rfl,(blk_cell aA.out 2).trans rfl,(blk_cell aA.out 3).trans rfl,(blk_cell aA.out 4).trans rfl,(blk_cell aE.out 0).trans rfl,(blk_cell aE.out 1).trans rfl,(hx_ HB.out bE :),(hx_ HB.out bD :)⟩ (fun hHeld=>?_);clear hK K;refine norm_ (a':=?_) ?_ ?_
                           rotate_left
                           ·show Act.put _ (some 141) _=_
                            simp only [Act.put,List.setIfInBounds_toArray,List.set_cons_zero,List.set_cons_succ,i64_w,i32_w];rfl
                           refine pu_ HT_ ?_;refine dg_ HT_ ?_;try go_wp2
                           go_ret
                           exact⟨by first|rfl|(simp [errW_none,errW_some] <;> rfl)|(simp only [← hji82];first|rfl|(simp [errW_none,errW_some] <;> rfl))|(simp [*,errW_none,errW_some] <;> rfl),hs_⟩
                         ·rw [if_neg c84] at H
                          exact absurd H (by simp)
                        ·rw [if_neg c83] at H
                         exact absurd H (by simp)
                       ·rw [if_neg c81] at H
                        have fL:decide (0<aC)=false:=decide_eq_false c81;clear c81;have H':=ak_ H;clear H
                        go_wp2
                        go_roundg kj61
                        case measure=>have:=HJ1.out;have:=HJ15.out;have:=HJ25.out;have:=HK4.out;have:=HK5.out;have:=HJ61.out;omega
                        case rel=>exact ⟨(wrap64 (aC+1)),rr_,H',⟨by have:=HJ1.out;have:=HJ15.out;have:=HJ25.out;have:=HK4.out;have:=HK5.out;have:=HJ61.out;omega⟩,⟨bk_ aA⟩,⟨hs_⟩⟩
                   ·rw [if_neg c61] at H
                    exact absurd H (by simp)
                  ·rw [if_neg c60] at H
                   exact absurd H (by simp)
                 ·rw [if_neg c59] at H
                  have dR:decide (aC<(aB.length:Int))=false:=decide_eq_false c59;clear c59;obtain rfl:=Option.some.inj H
                  go_wp2
                  go_ret
                  exact⟨re_,hs_⟩
end Go.Proofs.YtphjhbppjakocaaGreatDoor.PTag
