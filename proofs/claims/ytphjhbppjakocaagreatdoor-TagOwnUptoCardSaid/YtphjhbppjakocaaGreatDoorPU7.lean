/- Printed by a program (the kit's print.py with changes of this session) out of Lean's own print of the program: functions of the program as plain Lean functions, and that each call comes to what they say; conditions: those that each theorem states. Not trusted: Lean checks it. -/
import Derived.Test.YtphjhbppjakocaaGreatDoorWInv
import Derived.Test.YtphjhbppjakocaaGreatDoorPl1
import Derived.Test.YtphjhbppjakocaaGreatDoorWN
import Derived.Test.YtphjhbppjakocaaGreatDoorQCopied
import Derived.Test.YtphjhbppjakocaaGreatDoorRPut
set_option linter.unusedVariables false
set_option linter.unusedSimpArgs false
namespace Go.Proofs.YtphjhbppjakocaaGreatDoor.PTag
open Go.RowKit Go.Proofs.YtphjhbppjakocaaGreatDoorW.PrintWords Go.Proofs.YtphjhbppjakocaaGreatDoorW.PrintLast Go.Proofs.YtphjhbppjakocaaGreatDoorW.PrintMore
attribute [local go_sem] max2_int min2_int max_two min_two max_three min_three max_four min_four
attribute [local go_sem] setCell_drewN_ cell_put_twice_ gtr_less_
mutual
def i7_Check.j0:Nat→Bool→ByteArray→ByteArray→ByteArray→List ByteArray→List (S39)→Option (Int)
 |0,_,_,_,_,_,_=>none
 |k+1,x66,aM,aN,aO,aL,aJ=>if x66=true then(some 70) else(if (aL.length:Int)>64 then(some 5) else(i7_Check.l0 k 0 aM aN aO aL aJ))
def i7_Check.l0:Nat→Int→ByteArray→ByteArray→ByteArray→List ByteArray→List (S39)→Option (Int)
 |0,_,_,_,_,_,_=>none
 |k+1,x3,aM,aN,aO,aL,aJ=>if x3<(aL.length:Int) then(if 0≤x3 then((i7_variant.f k (rdOf ByteArray.empty aL x3)).bind fun dJ=>(if dJ=true then((i7_Small.f (rdOf ByteArray.empty aL x3)).bind fun cH=>(i7_Check.j2 k x3 (rdOf ByteArray.empty aL x3) (cH.toList != (rdOf ByteArray.empty aL x3).toList) aM aN aO aL aJ)) else(i7_Check.j2 k x3 (rdOf ByteArray.empty aL x3) true aM aN aO aL aJ))) else(none)) else(if (aJ.length:Int)>64 then(some 5) else(i7_Check.l1 k 0 aM aN aO aL aJ))
def i7_Check.j2:Nat→Int→ByteArray→Bool→ByteArray→ByteArray→ByteArray→List ByteArray→List (S39)→Option (Int)
 |0,_,_,_,_,_,_,_,_=>none
 |k+1,x3,x4,x91,aM,aN,aO,aL,aJ=>if x91=true then(some 70) else(if x3>0 then(if 0≤(wrap64 (x3 - 1)) then(if (wrap64 (x3 - 1))<(aL.length:Int) then(i7_Check.j3 k x3 x4 ((rdOf ByteArray.empty aL (wrap64 (x3 - 1))).toList==x4.toList) aM aN aO aL aJ) else(none)) else(none)) else(i7_Check.j3 k x3 x4 false aM aN aO aL aJ))
def i7_Check.j3:Nat→Int→ByteArray→Bool→ByteArray→ByteArray→ByteArray→List ByteArray→List (S39)→Option (Int)
 |0,_,_,_,_,_,_,_,_=>none
 |k+1,x3,x4,fK,aM,aN,aO,aL,aJ=>if fK=true then(some 6) else(if x3>0 then(if 0≤(wrap64 (x3 - 1)) then(if (wrap64 (x3 - 1))<(aL.length:Int) then(i7_Check.j4 k x3 (Op.bytesLess x4.toList ((rdOf ByteArray.empty aL (wrap64 (x3 - 1))).toList)) aM aN aO aL aJ) else(none)) else(none)) else(i7_Check.j4 k x3 false aM aN aO aL aJ))
def i7_Check.j4:Nat→Int→Bool→ByteArray→ByteArray→ByteArray→List ByteArray→List (S39)→Option (Int)
 |0,_,_,_,_,_,_,_=>none
 |k+1,x3,fL,aM,aN,aO,aL,aJ=>if fL=true then(some 70) else(i7_Check.l0 k (wrap64 (x3+1)) aM aN aO aL aJ)
def i7_Check.l1:Nat→Int→ByteArray→ByteArray→ByteArray→List ByteArray→List (S39)→Option (Int)
 |0,_,_,_,_,_,_=>none
 |k+1,x5,aM,aN,aO,aL,aJ=>if x5<(aJ.length:Int) then(if 0≤x5 then((i7_signs.f k ((rd_T39 aJ x5).f0) 2 2).bind fun dK=>(if dK=true then((i7_Small.f ((rd_T39 aJ x5).f0)).bind fun bM=>(if bM.toList=((rd_T39 aJ x5).f0).toList then((i7_value.f k ((rd_T39 aJ x5).f1)).bind fun cI=>(i7_Check.j6 k x5 (!cI) aM aN aO aL aJ ((rd_T39 aJ x5).f0) ((rd_T39 aJ x5).f1))) else(i7_Check.j6 k x5 true aM aN aO aL aJ ((rd_T39 aJ x5).f0) ((rd_T39 aJ x5).f1)))) else(i7_Check.j6 k x5 true aM aN aO aL aJ ((rd_T39 aJ x5).f0) ((rd_T39 aJ x5).f1)))) else(none)) else(some 0)
def i7_Check.j6:Nat→Int→Bool→ByteArray→ByteArray→ByteArray→List ByteArray→List (S39)→ByteArray→ByteArray→Option (Int)
 |0,_,_,_,_,_,_,_,_,_=>none
 |k+1,x5,fM,aM,aN,aO,aL,aJ,bN,dL=>if fM=true then(some 70) else(if x5>0 then(if 0≤(wrap64 (x5 - 1)) then(if (wrap64 (x5 - 1))<(aJ.length:Int) then(i7_Check.j7 k x5 (((rd_T39 aJ (wrap64 (x5 - 1))).f0).toList==bN.toList) aM aN aO aL aJ bN dL) else(none)) else(none)) else(i7_Check.j7 k x5 false aM aN aO aL aJ bN dL))
def i7_Check.j7:Nat→Int→Bool→ByteArray→ByteArray→ByteArray→List ByteArray→List (S39)→ByteArray→ByteArray→Option (Int)
 |0,_,_,_,_,_,_,_,_,_=>none
 |k+1,x5,fN,aM,aN,aO,aL,aJ,bN,dL=>if fN=true then(some 6) else(if x5>0 then(if 0≤(wrap64 (x5 - 1)) then(if (wrap64 (x5 - 1))<(aJ.length:Int) then(i7_Check.j8 k x5 (Op.bytesLess bN.toList (((rd_T39 aJ (wrap64 (x5 - 1))).f0).toList)) aM aN aO aL aJ) else(none)) else(none)) else(i7_Check.j8 k x5 false aM aN aO aL aJ))
def i7_Check.j8:Nat→Int→Bool→ByteArray→ByteArray→ByteArray→List ByteArray→List (S39)→Option (Int)
 |0,_,_,_,_,_,_,_=>none
 |k+1,x5,fO,aM,aN,aO,aL,aJ=>if fO=true then(some 70) else(i7_Check.l1 k (wrap64 (x5+1)) aM aN aO aL aJ)
end
def i7_Check.f (k:Nat) (aE:ByteArray) (aD:ByteArray) (aC:ByteArray) (aF:List ByteArray) (aB:List (S39)):Option (Int):=if aE.toList=([]:List UInt8) then(if aD.toList=([]:List UInt8) then(if aC.toList=([]:List UInt8) then(i7_Check.j0 k false aE aD aC aF aB) else((i7_region.f k aC).bind fun bO=>(if bO=true then((i7_great.f aC).bind fun bE=>(i7_Check.j0 k (bE.toList != aC.toList) aE aD aC aF aB)) else(i7_Check.j0 k true aE aD aC aF aB)))) else((i7_script.f k aD).bind fun bP=>(if bP=true then((i7_title.f aD).bind fun bA=>(if bA.toList=aD.toList then(if aC.toList=([]:List UInt8) then(i7_Check.j0 k false aE aD aC aF aB) else((i7_region.f k aC).bind fun bQ=>(if bQ=true then((i7_great.f aC).bind fun bF=>(i7_Check.j0 k (bF.toList != aC.toList) aE aD aC aF aB)) else(i7_Check.j0 k true aE aD aC aF aB)))) else(i7_Check.j0 k true aE aD aC aF aB))) else(i7_Check.j0 k true aE aD aC aF aB)))) else((i7_lang.f k aE).bind fun bR=>(if bR=true then((i7_Small.f aE).bind fun aV=>(if aV.toList=aE.toList then(if aE.toList=([117,110,100]:List UInt8) then(i7_Check.j0 k true aE aD aC aF aB) else(if aD.toList=([]:List UInt8) then(if aC.toList=([]:List UInt8) then(i7_Check.j0 k false aE aD aC aF aB) else((i7_region.f k aC).bind fun bS=>(if bS=true then((i7_great.f aC).bind fun bG=>(i7_Check.j0 k (bG.toList != aC.toList) aE aD aC aF aB)) else(i7_Check.j0 k true aE aD aC aF aB)))) else((i7_script.f k aD).bind fun bT=>(if bT=true then((i7_title.f aD).bind fun bB=>(if bB.toList=aD.toList then(if aC.toList=([]:List UInt8) then(i7_Check.j0 k false aE aD aC aF aB) else((i7_region.f k aC).bind fun bU=>(if bU=true then((i7_great.f aC).bind fun bH=>(i7_Check.j0 k (bH.toList != aC.toList) aE aD aC aF aB)) else(i7_Check.j0 k true aE aD aC aF aB)))) else(i7_Check.j0 k true aE aD aC aF aB))) else(i7_Check.j0 k true aE aD aC aF aB))))) else(i7_Check.j0 k true aE aD aC aF aB))) else(i7_Check.j0 k true aE aD aC aF aB)))
def i7_Check.T1:Bool×List (List Nat×List Nat):=(true,[([],[]),([0],[0]),([1],[1]),([2],[2]),([3],[3]),([4,3],[3,4]),([5,3,3],[3,5]),([6,3],[3,6]),([7,6,3],[3,7]),([8],[8]),([9,8],[8,9]),([10,8,8],[8,10]),([8],[8]),([12,8],[8,12]),([11,13,8],[8,11,13]),([8,14,3],[3,8,14]),([15,11,3],[3,15]),([16],[16]),([17,16],[16,17]),([18,16],[16,18]),([16,19,3],[3,16,19]),([3,20],[3,20]),([21,16],[21]),([22],[22]),([23,22],[22,23]),([24,22],[22,24]),([25,22,22],[22,25]),([26],[26]),([27,26],[26,27]),([28,26,26],[26,28]),([29,26],[26,29]),([30,29,26],[26,30]),([31],[31]),([32,31],[31,32]),([33,31,31],[31,33]),([31],[31]),([35,31],[31,35]),([34,36,31],[31,34,36]),([31,37,26],[26,31,37]),([26,38,22],[22,26,38]),([22,39],[22,39]),([40,34],[40]),([41],[41]),([42,41],[41,42]),([43,41],[41,43]),([44,41,41],[41,44]),([45],[45]),([46,45],[45,46]),([47,45,45],[45,47]),([48,45],[45,48]),([49,48,45],[45,49]),([50],[50]),([51,50],[50,51]),([52,50,50],[50,52]),([50],[50]),([54,50],[50,54]),([53,55,50],[50,53,55]),([50,56,45],[45,50,56]),([45,57,41],[41,45,57]),([41,58],[41,58])])
def i7_Check.B1:List Nat:=[0,1,3,7,15,31,63,127,255,511,1023,2047,511,4607,16383,32767,65535,131071,262143,524287,1048575,2097151,4194303,8388607,16777215,33554431,67108863,134217727,268435455,536870911,1073741823,2147483647,4294967295,8589934591,17179869183,4294967295,38654705663,137438953471,274877906943,549755813887,1099511627775,2199023255551,4398046511103,8796093022207,17592186044415,35184372088831,70368744177663,140737488355327,281474976710655,562949953421311,1125899906842623,2251799813685247,4503599627370495,9007199254740991,2251799813685247,20266198323167231,72057594037927935,144115188075855871,288230376151711743,576460752303423487]
theorem i7_Check.tab1:rtab .any (opsOf Tryz.f11 1)=i7_Check.T1:=by kernel_rfl
theorem i7_Check.bits1:waitsOk i7_Check.T1.2 i7_Check.B1=true:=by kernel_rfl
def i7_Check.T21:Bool×List (List Nat×List Nat):=(true,[([],[]),([0],[0]),([1],[1]),([2],[2]),([3,2],[3]),([4],[4]),([5,4],[4,5]),([6,4,4],[4,6]),([4],[4]),([8,4],[4,8]),([7,9,4],[4,7,9]),([4,10],[4,10]),([11,7],[11]),([12],[12]),([13,12],[12,13]),([14,12,12],[12,14]),([15,12],[12,15]),([12,16],[12,16])])
def i7_Check.B21:List Nat:=[0,1,3,7,15,31,63,127,31,287,1023,2047,4095,8191,16383,32767,65535,131071]
theorem i7_Check.tab21:rtab .any (opsOf Tryz.f11 21)=i7_Check.T21:=by kernel_rfl
theorem i7_Check.bits21:waitsOk i7_Check.T21.2 i7_Check.B21=true:=by kernel_rfl
def i7_Check.T23:Bool×List (List Nat×List Nat):=(true,[([],[]),([0],[0]),([1],[1]),([2],[2]),([3,2],[2,3]),([2],[2]),([5,2],[2,5]),([4,6,2],[2,4,6]),([7,2],[2,7]),([8,2],[2,8]),([2],[2]),([10,2],[2,10]),([9,11,2],[2,9,11]),([2,12],[2,12])])
def i7_Check.B23:List Nat:=[0,1,3,7,15,7,39,127,255,511,7,1031,4095,8191]
theorem i7_Check.tab23:rtab .any (opsOf Tryz.f11 23)=i7_Check.T23:=by kernel_rfl
theorem i7_Check.bits23:waitsOk i7_Check.T23.2 i7_Check.B23=true:=by kernel_rfl
def i7_Check.T25:Bool×List (List Nat×List Nat):=(true,[([],[]),([0],[0]),([1],[1]),([2],[2]),([3,2],[2,3]),([2],[2]),([5,2],[2,5]),([4,6,2],[2,4,6]),([7,2],[2,7]),([8,2],[2,8]),([2],[2]),([10,2],[2,10]),([9,11,2],[2,9,11]),([2,12],[2,12])])
def i7_Check.B25:List Nat:=[0,1,3,7,15,7,39,127,255,511,7,1031,4095,8191]
theorem i7_Check.tab25:rtab .any (opsOf Tryz.f11 25)=i7_Check.T25:=by kernel_rfl
theorem i7_Check.bits25:waitsOk i7_Check.T25.2 i7_Check.B25=true:=by kernel_rfl
set_option maxHeartbeats 8000000 in
set_option maxRecDepth 100000 in
theorem i7_Check.calls (k:Nat) (aE:ByteArray) (aD:ByteArray) (aC:ByteArray) (aW:Option Addr) (aQ:Nat) (aF:List ByteArray) (bC:Option Addr) (aR:Nat) (aB:List (S39)) (r:Int) (w:World) (hr0_3:Kd.C Kd.string w aW aF.length aF) (hc0_3:aF.length≤aQ) (hr0_4:Kd.C k39 w bC aB.length aB) (hc0_4:aB.length≤aR) (h:i7_Check.f k aE aD aC aF aB=some r):
 Calls Tryz.prog 11 #[.agg #[.string aE,.string aD,.string aC,.slice aW aF.length aQ,.slice bC aB.length aR]] w fun e w'=>e=.returned (.int .i64 r)∧Below w.heap.size w w':=by
 have hu25:=Tryz.underlying25;have hu39:=Tryz.underlying39;have dM:=ak_ hr0_3;have HC0_3:=ak_ hc0_3;clear hr0_3 hc0_3;have dN:=ak_ hr0_4;have HC0_4:=ak_ hc0_4;clear hr0_4 hc0_4;have HB:=ak_ (Below.refl w.heap.size w);have H:(if aE.toList=([]:List UInt8) then(if aD.toList=([]:List UInt8) then(if aC.toList=([]:List UInt8) then(i7_Check.j0 k false aE aD aC aF aB) else((i7_region.f k aC).bind fun bO=>(if bO=true then((i7_great.f aC).bind fun bE=>(i7_Check.j0 k (bE.toList != aC.toList) aE aD aC aF aB)) else(i7_Check.j0 k true aE aD aC aF aB)))) else((i7_script.f k aD).bind fun bP=>(if bP=true then((i7_title.f aD).bind fun bA=>(if bA.toList=aD.toList then(if aC.toList=([]:List UInt8) then(i7_Check.j0 k false aE aD aC aF aB) else((i7_region.f k aC).bind fun bQ=>(if bQ=true then((i7_great.f aC).bind fun bF=>(i7_Check.j0 k (bF.toList != aC.toList) aE aD aC aF aB)) else(i7_Check.j0 k true aE aD aC aF aB)))) else(i7_Check.j0 k true aE aD aC aF aB))) else(i7_Check.j0 k true aE aD aC aF aB)))) else((i7_lang.f k aE).bind fun bR=>(if bR=true then((i7_Small.f aE).bind fun aV=>(if aV.toList=aE.toList then(if aE.toList=([117,110,100]:List UInt8) then(i7_Check.j0 k true aE aD aC aF aB) else(if aD.toList=([]:List UInt8) then(if aC.toList=([]:List UInt8) then(i7_Check.j0 k false aE aD aC aF aB) else((i7_region.f k aC).bind fun bS=>(if bS=true then((i7_great.f aC).bind fun bG=>(i7_Check.j0 k (bG.toList != aC.toList) aE aD aC aF aB)) else(i7_Check.j0 k true aE aD aC aF aB)))) else((i7_script.f k aD).bind fun bT=>(if bT=true then((i7_title.f aD).bind fun bB=>(if bB.toList=aD.toList then(if aC.toList=([]:List UInt8) then(i7_Check.j0 k false aE aD aC aF aB) else((i7_region.f k aC).bind fun bU=>(if bU=true then((i7_great.f aC).bind fun bH=>(i7_Check.j0 k (bH.toList != aC.toList) aE aD aC aF aB)) else(i7_Check.j0 k true aE aD aC aF aB)))) else(i7_Check.j0 k true aE aD aC aF aB))) else(i7_Check.j0 k true aE aD aC aF aB))))) else(i7_Check.j0 k true aE aD aC aF aB))) else(i7_Check.j0 k true aE aD aC aF aB))))=some r:=h;clear h;have HC2:=ak_ H;clear H
 go_enter Tryz.func11,Tryz.ntmps11
 go_upto_region 1 with (first|((with_reducible refine gate_dst (N:=1) rfl ?_);refine bx_ 1 #[.string aE,.string aD,.string aC,.slice aW aF.length aQ,.slice bC aB.length aR] 25 ?_;intro aP hg w3 hbox hb;have aA:=ak_ (hbox);have GW137:=ak_ (gw_ hg);have GE137:=ak_ (gw_ hg);replace HB:=ak_ (below_step hb_ hb);clear hb hbox hg))
 (try simp only [Act.put,List.setIfInBounds_toArray,List.set_cons_zero,List.set_cons_succ])
 go_cut [66] (fun v66 wc=>∃ (kq:Nat) (cJ:Bool),v66=.bool cJ∧Aside0 (i7_Check.j0 kq cJ aE aD aC aF aB=some r)∧Aside0 (kq≤k)∧Aside0 (wc.heap[aP]?=some (.cells #[.string aE,.string aD,.string aC,(.slice aW aF.length aQ),(.slice bC aB.length aR)] 25 (0,0)))∧Aside0 (Below w.heap.size w wc))
 case first=>
  have H:=HC2.out;clear HC2;by_cases c4:aE.toList=([]:List UInt8)
  ·as_aux_lemma=>
   rw [if_pos c4] at H;obtain⟨bV,dO,dP⟩:=eq3_ c4;clear c4
   (first|rw [bV]|rw [dO]|rw [dP]|(simp only [i64_w,i32_w];rw [bV])|skip)
   (try simp only [Bool.not_true,Bool.not_false])
   by_cases c5:aD.toList=([]:List UInt8)
   ·as_aux_lemma=>
    rw [if_pos c5] at H;obtain⟨fP,fQ,fR⟩:=eq3_ c5;clear c5;by_cases c6:aC.toList=([]:List UInt8)
    ·as_aux_lemma=>
     rw [if_pos c6] at H;obtain⟨fS,fT,fU⟩:=eq3_ c6;clear c6;have H':=ak_ H;clear H;try go_wp2
     replace aA:=ak_ (blk_drew aA.out);replace HB:=ak_ (below_drew1 HB.out);refine st5_ 60 i7_Check.tab1 i7_Check.bits1 aA (fun hHeld HT_ HW_=>?_);generalize w3.drew=w7 at aA HB hHeld ⊢
     iterate 60 (first|refine sk_ HT_ ?_|refine pu_ HT_ ?_|refine tk_ HT_ HW_ hHeld ?_)
     refine dg_ HT_ ?_;try go_wp2
     go_meet
     case rel=>exact ⟨_,(false),rr_,H',⟨by first|omega|exact Nat.le_refl _⟩,⟨bk_ aA⟩,⟨hs_⟩⟩
    ·as_aux_lemma=>
     rw [if_neg c6] at H;obtain⟨fS,fT,fU⟩:=ne3_ c6;replace H:=Option.bind_eq_some_iff.mp H;obtain⟨bO,A80,H⟩:=H;try dsimp only at H
     have A8:=ak_ A80;clear A80;by_cases c9:bO=true
     ·as_aux_lemma=>
      subst c9;replace H:=it_ H;replace H:=Option.bind_eq_some_iff.mp H;obtain⟨bE,eJ,H⟩:=H;try dsimp only at H
      have A10:=ak_ eJ;clear eJ;have H':=ak_ H;clear H;try go_wp2
      replace aA:=ak_ (blk_drew aA.out);replace HB:=ak_ (below_drew1 HB.out);refine st5_ 60 i7_Check.tab1 i7_Check.bits1 aA (fun hHeld HT_ HW_=>?_);generalize w3.drew=w11 at aA HB hHeld ⊢
      iterate 48 (first|refine sk_ HT_ ?_|refine pu_ HT_ ?_|refine tk_ HT_ HW_ hHeld ?_)
      refine cg_ 48 (bmp 60 49) (some 55) Tryz.func32 #[.string aC] HT_ ?_
      with_reducible refine(i7_region.calls k aC true _ A8.out).mono ?_
      rintro e w' ⟨rfl,⟨nd,rfl⟩⟩;refine⟨_,rfl,s5_ aA,fun hHeld=>nm_ ?_⟩
      iterate 3 (refine pu_ HT_ ?_)
      refine pg_ 54 (bm 60 22517998136852479) HT_ ?_;refine tg_ 52 (bm 60 27021597764222975) HT_ HW_ hHeld ?_;refine tg_ 55 (bm 60 63050394783186943) HT_ HW_ hHeld ?_;refine cg_ 53 (bmp 60 56) (some 60) Tryz.func33 #[.string aC] HT_ ?_
      with_reducible refine(i7_great.calls aC bE _ A10.out).mono ?_
      rintro e w12 ⟨rfl,hb⟩;replace aA:=ak_ (bb_ aA hb);replace HB:=ak_ (below_step hs_ hb)
      (try clear hb)
      (try clear hb2)
      (try clear hk)
      (try clear hi)
      refine⟨_,rfl,s5_ aA,fun hHeld=>nm_ ?_⟩
      iterate 4 (refine pu_ HT_ ?_)
      refine dg_ HT_ ?_;try go_wp2
      go_meet
      case rel=>exact ⟨_,((bE.toList != aC.toList)),rr_,H',⟨by first|omega|exact Nat.le_refl _⟩,⟨bk_ aA⟩,⟨hs_⟩⟩
     ·as_aux_lemma=>
      replace c9:=Bool.eq_false_iff.mpr c9;subst c9;replace H:=if_f_ H;have H':=ak_ H;clear H;try go_wp2
      replace aA:=ak_ (blk_drew aA.out);replace HB:=ak_ (below_drew1 HB.out);refine st5_ 60 i7_Check.tab1 i7_Check.bits1 aA (fun hHeld HT_ HW_=>?_);generalize w3.drew=w13 at aA HB hHeld ⊢
      iterate 48 (first|refine sk_ HT_ ?_|refine pu_ HT_ ?_|refine tk_ HT_ HW_ hHeld ?_)
      refine cg_ 48 (bmp 60 49) (some 55) Tryz.func32 #[.string aC] HT_ ?_
      with_reducible refine(i7_region.calls k aC false _ A8.out).mono ?_
      rintro e w' ⟨rfl,⟨nd,rfl⟩⟩;refine⟨_,rfl,s5_ aA,fun hHeld=>nm_ ?_⟩
      iterate 11 (first|refine sk_ HT_ ?_|refine pu_ HT_ ?_)
      refine dg_ HT_ ?_;try go_wp2
      go_meet
      case rel=>exact ⟨_,(true),rr_,H',⟨by first|omega|exact Nat.le_refl _⟩,⟨bk_ aA⟩,⟨hs_⟩⟩
   ·as_aux_lemma=>
    rw [if_neg c5] at H;obtain⟨fP,fQ,fR⟩:=ne3_ c5;replace H:=Option.bind_eq_some_iff.mp H;obtain⟨bP,eK,H⟩:=H;try dsimp only at H
    have A14:=ak_ eK;clear eK;by_cases c15:bP=true
    ·as_aux_lemma=>
     subst c15;replace H:=it_ H;replace H:=Option.bind_eq_some_iff.mp H;obtain⟨bA,eL,H⟩:=H;try dsimp only at H
     have A16:=ak_ eL;clear eL;by_cases c17:bA.toList=aD.toList
     ·as_aux_lemma=>
      rw [if_pos c17] at H;obtain⟨fV,fW⟩:=eq2_ c17;clear c17;by_cases c18:aC.toList=([]:List UInt8)
      ·as_aux_lemma=>
       rw [if_pos c18] at H;obtain⟨fX,fY,fZ⟩:=eq3_ c18;clear c18;have H':=ak_ H;clear H;try go_wp2
       replace aA:=ak_ (blk_drew aA.out);replace HB:=ak_ (below_drew1 HB.out);refine st5_ 60 i7_Check.tab1 i7_Check.bits1 aA (fun hHeld HT_ HW_=>?_);generalize w3.drew=w19 at aA HB hHeld ⊢
       iterate 29 (first|refine sk_ HT_ ?_|refine pu_ HT_ ?_|refine tk_ HT_ HW_ hHeld ?_)
       refine cg_ 29 (bmp 60 30) (some 36) Tryz.func30 #[.string aD] HT_ ?_
       with_reducible refine(i7_script.calls k aD true _ A14.out).mono ?_
       rintro e w' ⟨rfl,⟨nd,rfl⟩⟩;refine⟨_,rfl,s5_ aA,fun hHeld=>nm_ ?_⟩
       iterate 3 (refine pu_ HT_ ?_)
       refine pg_ 35 (bm 60 42949672959) HT_ ?_;refine tg_ 33 (bm 60 51539607551) HT_ HW_ hHeld ?_;refine tg_ 36 (bm 60 120259084287) HT_ HW_ hHeld ?_;refine cg_ 34 (bmp 60 37) (some 41) Tryz.func31 #[.string aD] HT_ ?_
       with_reducible refine(i7_title.calls aD bA _ A16.out).mono ?_
       rintro e w20 ⟨rfl,hb⟩;replace aA:=ak_ (bb_ aA hb);replace HB:=ak_ (below_step hs_ hb)
       (try clear hb)
       (try clear hb2)
       (try clear hk)
       (try clear hi)
       refine⟨_,rfl,s5_ aA,fun hHeld=>nm_ ?_⟩
       iterate 23 (first|refine sk_ HT_ ?_|refine pu_ HT_ ?_|refine tk_ HT_ HW_ hHeld ?_)
       refine dg_ HT_ ?_;try go_wp2
       go_meet
       case rel=>exact ⟨_,(false),rr_,H',⟨by first|omega|exact Nat.le_refl _⟩,⟨bk_ aA⟩,⟨hs_⟩⟩
      ·as_aux_lemma=>
       rw [if_neg c18] at H;obtain⟨fX,fY,fZ⟩:=ne3_ c18;replace H:=Option.bind_eq_some_iff.mp H;obtain⟨bQ,eM,H⟩:=H;try dsimp only at H
       have A21:=ak_ eM;clear eM;by_cases c22:bQ=true
       ·as_aux_lemma=>
        subst c22;replace H:=it_ H;replace H:=Option.bind_eq_some_iff.mp H;obtain⟨bF,eN,H⟩:=H;try dsimp only at H
        have A23:=ak_ eN;clear eN;have H':=ak_ H;clear H;try go_wp2
        replace aA:=ak_ (blk_drew aA.out);replace HB:=ak_ (below_drew1 HB.out);refine st5_ 60 i7_Check.tab1 i7_Check.bits1 aA (fun hHeld HT_ HW_=>?_);generalize w3.drew=w24 at aA HB hHeld ⊢
        iterate 29 (first|refine sk_ HT_ ?_|refine pu_ HT_ ?_|refine tk_ HT_ HW_ hHeld ?_)
        refine cg_ 29 (bmp 60 30) (some 36) Tryz.func30 #[.string aD] HT_ ?_
        with_reducible refine(i7_script.calls k aD true _ A14.out).mono ?_
        rintro e w' ⟨rfl,⟨nd,rfl⟩⟩;refine⟨_,rfl,s5_ aA,fun hHeld=>nm_ ?_⟩
        iterate 3 (refine pu_ HT_ ?_)
        refine pg_ 35 (bm 60 42949672959) HT_ ?_;refine tg_ 33 (bm 60 51539607551) HT_ HW_ hHeld ?_;refine tg_ 36 (bm 60 120259084287) HT_ HW_ hHeld ?_;refine cg_ 34 (bmp 60 37) (some 41) Tryz.func31 #[.string aD] HT_ ?_
        with_reducible refine(i7_title.calls aD bA _ A16.out).mono ?_
        rintro e w25 ⟨rfl,hb⟩;replace aA:=ak_ (bb_ aA hb);replace HB:=ak_ (below_step hs_ hb)
        (try clear hb)
        (try clear hb2)
        (try clear hk)
        (try clear hi)
        refine⟨_,rfl,s5_ aA,fun hHeld=>nm_ ?_⟩
        iterate 11 (first|refine pu_ HT_ ?_|refine tk_ HT_ HW_ hHeld ?_)
        refine cg_ 48 (bmp 60 49) (some 55) Tryz.func32 #[.string aC] HT_ ?_
        with_reducible refine(i7_region.calls k aC true _ A21.out).mono ?_
        rintro e w' ⟨rfl,⟨nd,rfl⟩⟩;refine⟨_,rfl,s5_ aA,fun hHeld=>nm_ ?_⟩
        iterate 3 (refine pu_ HT_ ?_)
        refine pg_ 54 (bm 60 22517998136852479) HT_ ?_;refine tg_ 52 (bm 60 27021597764222975) HT_ HW_ hHeld ?_;refine tg_ 55 (bm 60 63050394783186943) HT_ HW_ hHeld ?_;refine cg_ 53 (bmp 60 56) (some 60) Tryz.func33 #[.string aC] HT_ ?_
        with_reducible refine(i7_great.calls aC bF _ A23.out).mono ?_
        rintro e w26 ⟨rfl,hb⟩;replace aA:=ak_ (bb_ aA hb);replace HB:=ak_ (below_step hs_ hb)
        (try clear hb)
        (try clear hb2)
        (try clear hk)
        (try clear hi)
        refine⟨_,rfl,s5_ aA,fun hHeld=>nm_ ?_⟩
        iterate 4 (refine pu_ HT_ ?_)
        refine dg_ HT_ ?_;try go_wp2
        go_meet
        case rel=>exact ⟨_,((bF.toList != aC.toList)),rr_,H',⟨by first|omega|exact Nat.le_refl _⟩,⟨bk_ aA⟩,⟨hs_⟩⟩
       ·as_aux_lemma=>
        replace c22:=Bool.eq_false_iff.mpr c22;subst c22;replace H:=if_f_ H;have H':=ak_ H;clear H;try go_wp2
        replace aA:=ak_ (blk_drew aA.out);replace HB:=ak_ (below_drew1 HB.out);refine st5_ 60 i7_Check.tab1 i7_Check.bits1 aA (fun hHeld HT_ HW_=>?_);generalize w3.drew=w27 at aA HB hHeld ⊢
        iterate 29 (first|refine sk_ HT_ ?_|refine pu_ HT_ ?_|refine tk_ HT_ HW_ hHeld ?_)
        refine cg_ 29 (bmp 60 30) (some 36) Tryz.func30 #[.string aD] HT_ ?_
        with_reducible refine(i7_script.calls k aD true _ A14.out).mono ?_
        rintro e w' ⟨rfl,⟨nd,rfl⟩⟩;refine⟨_,rfl,s5_ aA,fun hHeld=>nm_ ?_⟩
        iterate 3 (refine pu_ HT_ ?_)
        refine pg_ 35 (bm 60 42949672959) HT_ ?_;refine tg_ 33 (bm 60 51539607551) HT_ HW_ hHeld ?_;refine tg_ 36 (bm 60 120259084287) HT_ HW_ hHeld ?_;refine cg_ 34 (bmp 60 37) (some 41) Tryz.func31 #[.string aD] HT_ ?_
        with_reducible refine(i7_title.calls aD bA _ A16.out).mono ?_
        rintro e w28 ⟨rfl,hb⟩;replace aA:=ak_ (bb_ aA hb);replace HB:=ak_ (below_step hs_ hb)
        (try clear hb)
        (try clear hb2)
        (try clear hk)
        (try clear hi)
        refine⟨_,rfl,s5_ aA,fun hHeld=>nm_ ?_⟩
        iterate 11 (first|refine pu_ HT_ ?_|refine tk_ HT_ HW_ hHeld ?_)
        refine cg_ 48 (bmp 60 49) (some 55) Tryz.func32 #[.string aC] HT_ ?_
        with_reducible refine(i7_region.calls k aC false _ A21.out).mono ?_
        rintro e w' ⟨rfl,⟨nd,rfl⟩⟩;refine⟨_,rfl,s5_ aA,fun hHeld=>nm_ ?_⟩
        iterate 11 (first|refine sk_ HT_ ?_|refine pu_ HT_ ?_)
        refine dg_ HT_ ?_;try go_wp2
        go_meet
        case rel=>exact ⟨_,(true),rr_,H',⟨by first|omega|exact Nat.le_refl _⟩,⟨bk_ aA⟩,⟨hs_⟩⟩
     ·as_aux_lemma=>
      rw [if_neg c17] at H;obtain⟨fV,fW⟩:=ne2_ c17;have H':=ak_ H;clear H;try go_wp2
      replace aA:=ak_ (blk_drew aA.out);replace HB:=ak_ (below_drew1 HB.out);refine st5_ 60 i7_Check.tab1 i7_Check.bits1 aA (fun hHeld HT_ HW_=>?_);generalize w3.drew=w29 at aA HB hHeld ⊢
      iterate 29 (first|refine sk_ HT_ ?_|refine pu_ HT_ ?_|refine tk_ HT_ HW_ hHeld ?_)
      refine cg_ 29 (bmp 60 30) (some 36) Tryz.func30 #[.string aD] HT_ ?_
      with_reducible refine(i7_script.calls k aD true _ A14.out).mono ?_
      rintro e w' ⟨rfl,⟨nd,rfl⟩⟩;refine⟨_,rfl,s5_ aA,fun hHeld=>nm_ ?_⟩
      iterate 3 (refine pu_ HT_ ?_)
      refine pg_ 35 (bm 60 42949672959) HT_ ?_;refine tg_ 33 (bm 60 51539607551) HT_ HW_ hHeld ?_;refine tg_ 36 (bm 60 120259084287) HT_ HW_ hHeld ?_;refine cg_ 34 (bmp 60 37) (some 41) Tryz.func31 #[.string aD] HT_ ?_
      with_reducible refine(i7_title.calls aD bA _ A16.out).mono ?_
      rintro e w30 ⟨rfl,hb⟩;replace aA:=ak_ (bb_ aA hb);replace HB:=ak_ (below_step hs_ hb)
      (try clear hb)
      (try clear hb2)
      (try clear hk)
      (try clear hi)
      refine⟨_,rfl,s5_ aA,fun hHeld=>nm_ ?_⟩
      iterate 23 (first|refine sk_ HT_ ?_|refine pu_ HT_ ?_)
      refine dg_ HT_ ?_;try go_wp2
      go_meet
      case rel=>exact ⟨_,(true),rr_,H',⟨by first|omega|exact Nat.le_refl _⟩,⟨bk_ aA⟩,⟨hs_⟩⟩
    ·as_aux_lemma=>
     replace c15:=Bool.eq_false_iff.mpr c15;subst c15;replace H:=if_f_ H;have H':=ak_ H;clear H;try go_wp2
     replace aA:=ak_ (blk_drew aA.out);replace HB:=ak_ (below_drew1 HB.out);refine st5_ 60 i7_Check.tab1 i7_Check.bits1 aA (fun hHeld HT_ HW_=>?_);generalize w3.drew=w31 at aA HB hHeld ⊢
     iterate 29 (first|refine sk_ HT_ ?_|refine pu_ HT_ ?_|refine tk_ HT_ HW_ hHeld ?_)
     refine cg_ 29 (bmp 60 30) (some 36) Tryz.func30 #[.string aD] HT_ ?_
     with_reducible refine(i7_script.calls k aD false _ A14.out).mono ?_
     rintro e w' ⟨rfl,⟨nd,rfl⟩⟩;refine⟨_,rfl,s5_ aA,fun hHeld=>nm_ ?_⟩
     iterate 30 (first|refine sk_ HT_ ?_|refine pu_ HT_ ?_)
     refine dg_ HT_ ?_;try go_wp2
     go_meet
     case rel=>exact ⟨_,(true),rr_,H',⟨by first|omega|exact Nat.le_refl _⟩,⟨bk_ aA⟩,⟨hs_⟩⟩
  ·as_aux_lemma=>
   rw [if_neg c4] at H;obtain⟨bV,dO,dP⟩:=ne3_ c4
   (first|rw [bV]|rw [dO]|rw [dP]|(simp only [i64_w,i32_w];rw [bV])|skip)
   (try simp only [Bool.not_true,Bool.not_false])
   replace H:=Option.bind_eq_some_iff.mp H;obtain⟨bR,eO,H⟩:=H;try dsimp only at H
   have A32:=ak_ eO;clear eO;by_cases c33:bR=true
   ·as_aux_lemma=>
    subst c33;replace H:=it_ H;replace H:=Option.bind_eq_some_iff.mp H;obtain⟨aV,eP,H⟩:=H;try dsimp only at H
    have A34:=ak_ eP;clear eP;by_cases c35:aV.toList=aE.toList
    ·as_aux_lemma=>
     rw [if_pos c35] at H;obtain⟨gA,gB⟩:=eq2_ c35;clear c35;by_cases c36:aE.toList=([117,110,100]:List UInt8)
     ·as_aux_lemma=>
      rw [if_pos c36] at H;obtain⟨gC,gD⟩:=eq2_ c36;clear c36;have H':=ak_ H;clear H;try go_wp2
      replace aA:=ak_ (blk_drew aA.out);replace HB:=ak_ (below_drew1 HB.out);refine st5_ 60 i7_Check.tab1 i7_Check.bits1 aA (fun hHeld HT_ HW_=>?_);generalize w3.drew=w37 at aA HB hHeld ⊢
      iterate 6 (first|refine pu_ HT_ ?_|refine tk_ HT_ HW_ hHeld ?_)
      refine cg_ 6 (bmp 60 7) (some 13) Tryz.func28 #[.string aE] HT_ ?_
      with_reducible refine(i7_lang.calls k aE true _ A32.out).mono ?_
      rintro e w' ⟨rfl,⟨nd,rfl⟩⟩;refine⟨_,rfl,s5_ aA,fun hHeld=>nm_ ?_⟩
      iterate 3 (refine pu_ HT_ ?_)
      refine pg_ 12 (bm 60 5119) HT_ ?_;refine tg_ 10 (bm 60 6143) HT_ HW_ hHeld ?_;refine tg_ 13 (bm 60 14335) HT_ HW_ hHeld ?_;refine cg_ 11 (bmp 60 14) (some 18) Tryz.func29 #[.string aE] HT_ ?_
      with_reducible refine(i7_Small.calls aE aV _ A34.out).mono ?_
      rintro e w38 ⟨rfl,hb⟩;replace aA:=ak_ (bb_ aA hb);replace HB:=ak_ (below_step hs_ hb)
      (try clear hb)
      (try clear hb2)
      (try clear hk)
      (try clear hi)
      refine⟨_,rfl,s5_ aA,fun hHeld=>nm_ ?_⟩
      iterate 46 (first|refine sk_ HT_ ?_|refine pu_ HT_ ?_|refine tk_ HT_ HW_ hHeld ?_)
      refine dg_ HT_ ?_;try go_wp2
      go_meet
      case rel=>exact ⟨_,(true),rr_,H',⟨by first|omega|exact Nat.le_refl _⟩,⟨bk_ aA⟩,⟨hs_⟩⟩
     ·as_aux_lemma=>
      rw [if_neg c36] at H;obtain⟨gC,gD⟩:=ne2_ c36;by_cases c39:aD.toList=([]:List UInt8)
      ·as_aux_lemma=>
       rw [if_pos c39] at H;obtain⟨gE,gF,gG⟩:=eq3_ c39;clear c39;by_cases c40:aC.toList=([]:List UInt8)
       ·as_aux_lemma=>
        rw [if_pos c40] at H;obtain⟨gH,gI,gJ⟩:=eq3_ c40;clear c40;have H':=ak_ H;clear H;try go_wp2
        replace aA:=ak_ (blk_drew aA.out);replace HB:=ak_ (below_drew1 HB.out);refine st5_ 60 i7_Check.tab1 i7_Check.bits1 aA (fun hHeld HT_ HW_=>?_);generalize w3.drew=w41 at aA HB hHeld ⊢
        iterate 6 (first|refine pu_ HT_ ?_|refine tk_ HT_ HW_ hHeld ?_)
        refine cg_ 6 (bmp 60 7) (some 13) Tryz.func28 #[.string aE] HT_ ?_
        with_reducible refine(i7_lang.calls k aE true _ A32.out).mono ?_
        rintro e w' ⟨rfl,⟨nd,rfl⟩⟩;refine⟨_,rfl,s5_ aA,fun hHeld=>nm_ ?_⟩
        iterate 3 (refine pu_ HT_ ?_)
        refine pg_ 12 (bm 60 5119) HT_ ?_;refine tg_ 10 (bm 60 6143) HT_ HW_ hHeld ?_;refine tg_ 13 (bm 60 14335) HT_ HW_ hHeld ?_;refine cg_ 11 (bmp 60 14) (some 18) Tryz.func29 #[.string aE] HT_ ?_
        with_reducible refine(i7_Small.calls aE aV _ A34.out).mono ?_
        rintro e w42 ⟨rfl,hb⟩;replace aA:=ak_ (bb_ aA hb);replace HB:=ak_ (below_step hs_ hb)
        (try clear hb)
        (try clear hb2)
        (try clear hk)
        (try clear hi)
        refine⟨_,rfl,s5_ aA,fun hHeld=>nm_ ?_⟩
        iterate 46 (first|refine sk_ HT_ ?_|refine pu_ HT_ ?_|refine tk_ HT_ HW_ hHeld ?_)
        refine dg_ HT_ ?_;try go_wp2
        go_meet
        case rel=>exact ⟨_,(false),rr_,H',⟨by first|omega|exact Nat.le_refl _⟩,⟨bk_ aA⟩,⟨hs_⟩⟩
       ·as_aux_lemma=>
        rw [if_neg c40] at H;obtain⟨gH,gI,gJ⟩:=ne3_ c40;replace H:=Option.bind_eq_some_iff.mp H;obtain⟨bS,eQ,H⟩:=H;try dsimp only at H
        have A43:=ak_ eQ;clear eQ;by_cases c44:bS=true
        ·as_aux_lemma=>
         subst c44;replace H:=it_ H;replace H:=Option.bind_eq_some_iff.mp H;obtain⟨bG,eR,H⟩:=H;try dsimp only at H
         have A45:=ak_ eR;clear eR;have H':=ak_ H;clear H;try go_wp2
         replace aA:=ak_ (blk_drew aA.out);replace HB:=ak_ (below_drew1 HB.out);refine st5_ 60 i7_Check.tab1 i7_Check.bits1 aA (fun hHeld HT_ HW_=>?_);generalize w3.drew=w46 at aA HB hHeld ⊢
         iterate 6 (first|refine pu_ HT_ ?_|refine tk_ HT_ HW_ hHeld ?_)
         refine cg_ 6 (bmp 60 7) (some 13) Tryz.func28 #[.string aE] HT_ ?_
         with_reducible refine(i7_lang.calls k aE true _ A32.out).mono ?_
         rintro e w' ⟨rfl,⟨nd,rfl⟩⟩;refine⟨_,rfl,s5_ aA,fun hHeld=>nm_ ?_⟩
         iterate 3 (refine pu_ HT_ ?_)
         refine pg_ 12 (bm 60 5119) HT_ ?_;refine tg_ 10 (bm 60 6143) HT_ HW_ hHeld ?_;refine tg_ 13 (bm 60 14335) HT_ HW_ hHeld ?_;refine cg_ 11 (bmp 60 14) (some 18) Tryz.func29 #[.string aE] HT_ ?_
         with_reducible refine(i7_Small.calls aE aV _ A34.out).mono ?_
         rintro e w47 ⟨rfl,hb⟩;replace aA:=ak_ (bb_ aA hb);replace HB:=ak_ (below_step hs_ hb)
         (try clear hb)
         (try clear hb2)
         (try clear hk)
         (try clear hi)
         refine⟨_,rfl,s5_ aA,fun hHeld=>nm_ ?_⟩
         iterate 34 (first|refine sk_ HT_ ?_|refine pu_ HT_ ?_|refine tk_ HT_ HW_ hHeld ?_)
         refine cg_ 48 (bmp 60 49) (some 55) Tryz.func32 #[.string aC] HT_ ?_
         with_reducible refine(i7_region.calls k aC true _ A43.out).mono ?_
         rintro e w' ⟨rfl,⟨nd,rfl⟩⟩;refine⟨_,rfl,s5_ aA,fun hHeld=>nm_ ?_⟩
         iterate 3 (refine pu_ HT_ ?_)
         refine pg_ 54 (bm 60 22517998136852479) HT_ ?_;refine tg_ 52 (bm 60 27021597764222975) HT_ HW_ hHeld ?_;refine tg_ 55 (bm 60 63050394783186943) HT_ HW_ hHeld ?_;refine cg_ 53 (bmp 60 56) (some 60) Tryz.func33 #[.string aC] HT_ ?_
         with_reducible refine(i7_great.calls aC bG _ A45.out).mono ?_
         rintro e w48 ⟨rfl,hb⟩;replace aA:=ak_ (bb_ aA hb);replace HB:=ak_ (below_step hs_ hb)
         (try clear hb)
         (try clear hb2)
         (try clear hk)
         (try clear hi)
         refine⟨_,rfl,s5_ aA,fun hHeld=>nm_ ?_⟩
         iterate 4 (refine pu_ HT_ ?_)
         refine dg_ HT_ ?_;try go_wp2
         go_meet
         case rel=>exact ⟨_,((bG.toList != aC.toList)),rr_,H',⟨by first|omega|exact Nat.le_refl _⟩,⟨bk_ aA⟩,⟨hs_⟩⟩
        ·as_aux_lemma=>
         replace c44:=Bool.eq_false_iff.mpr c44;subst c44;replace H:=if_f_ H;have H':=ak_ H;clear H;try go_wp2
         replace aA:=ak_ (blk_drew aA.out);replace HB:=ak_ (below_drew1 HB.out);refine st5_ 60 i7_Check.tab1 i7_Check.bits1 aA (fun hHeld HT_ HW_=>?_);generalize w3.drew=w49 at aA HB hHeld ⊢
         iterate 6 (first|refine pu_ HT_ ?_|refine tk_ HT_ HW_ hHeld ?_)
         refine cg_ 6 (bmp 60 7) (some 13) Tryz.func28 #[.string aE] HT_ ?_
         with_reducible refine(i7_lang.calls k aE true _ A32.out).mono ?_
         rintro e w' ⟨rfl,⟨nd,rfl⟩⟩;refine⟨_,rfl,s5_ aA,fun hHeld=>nm_ ?_⟩
         iterate 3 (refine pu_ HT_ ?_)
         refine pg_ 12 (bm 60 5119) HT_ ?_;refine tg_ 10 (bm 60 6143) HT_ HW_ hHeld ?_;refine tg_ 13 (bm 60 14335) HT_ HW_ hHeld ?_;refine cg_ 11 (bmp 60 14) (some 18) Tryz.func29 #[.string aE] HT_ ?_
         with_reducible refine(i7_Small.calls aE aV _ A34.out).mono ?_
         rintro e w50 ⟨rfl,hb⟩;replace aA:=ak_ (bb_ aA hb);replace HB:=ak_ (below_step hs_ hb)
         (try clear hb)
         (try clear hb2)
         (try clear hk)
         (try clear hi)
         refine⟨_,rfl,s5_ aA,fun hHeld=>nm_ ?_⟩
         iterate 34 (first|refine sk_ HT_ ?_|refine pu_ HT_ ?_|refine tk_ HT_ HW_ hHeld ?_)
         refine cg_ 48 (bmp 60 49) (some 55) Tryz.func32 #[.string aC] HT_ ?_
         with_reducible refine(i7_region.calls k aC false _ A43.out).mono ?_
         rintro e w' ⟨rfl,⟨nd,rfl⟩⟩;refine⟨_,rfl,s5_ aA,fun hHeld=>nm_ ?_⟩
         iterate 11 (first|refine sk_ HT_ ?_|refine pu_ HT_ ?_)
         refine dg_ HT_ ?_;try go_wp2
         go_meet
         case rel=>exact ⟨_,(true),rr_,H',⟨by first|omega|exact Nat.le_refl _⟩,⟨bk_ aA⟩,⟨hs_⟩⟩
      ·as_aux_lemma=>
       rw [if_neg c39] at H;obtain⟨gE,gF,gG⟩:=ne3_ c39;replace H:=Option.bind_eq_some_iff.mp H;obtain⟨bT,eS,H⟩:=H;try dsimp only at H
       have A51:=ak_ eS;clear eS;by_cases c52:bT=true
       ·as_aux_lemma=>
        subst c52;replace H:=it_ H;replace H:=Option.bind_eq_some_iff.mp H;obtain⟨bB,eT,H⟩:=H;try dsimp only at H
        have A53:=ak_ eT;clear eT;by_cases c54:bB.toList=aD.toList
        ·as_aux_lemma=>
         rw [if_pos c54] at H;obtain⟨gK,gL⟩:=eq2_ c54;clear c54;by_cases c55:aC.toList=([]:List UInt8)
         ·as_aux_lemma=>
          rw [if_pos c55] at H;obtain⟨gM,gN,gO⟩:=eq3_ c55;clear c55;have H':=ak_ H;clear H;try go_wp2
          replace aA:=ak_ (blk_drew aA.out);replace HB:=ak_ (below_drew1 HB.out);refine st5_ 60 i7_Check.tab1 i7_Check.bits1 aA (fun hHeld HT_ HW_=>?_);generalize w3.drew=w56 at aA HB hHeld ⊢
          iterate 6 (first|refine pu_ HT_ ?_|refine tk_ HT_ HW_ hHeld ?_)
          refine cg_ 6 (bmp 60 7) (some 13) Tryz.func28 #[.string aE] HT_ ?_
          with_reducible refine(i7_lang.calls k aE true _ A32.out).mono ?_
          rintro e w' ⟨rfl,⟨nd,rfl⟩⟩;refine⟨_,rfl,s5_ aA,fun hHeld=>nm_ ?_⟩
          iterate 3 (refine pu_ HT_ ?_)
          refine pg_ 12 (bm 60 5119) HT_ ?_;refine tg_ 10 (bm 60 6143) HT_ HW_ hHeld ?_;refine tg_ 13 (bm 60 14335) HT_ HW_ hHeld ?_;refine cg_ 11 (bmp 60 14) (some 18) Tryz.func29 #[.string aE] HT_ ?_
          with_reducible refine(i7_Small.calls aE aV _ A34.out).mono ?_
          rintro e w57 ⟨rfl,hb⟩;replace aA:=ak_ (bb_ aA hb);replace HB:=ak_ (below_step hs_ hb)
          (try clear hb)
          (try clear hb2)
          (try clear hk)
          (try clear hi)
          refine⟨_,rfl,s5_ aA,fun hHeld=>nm_ ?_⟩
          iterate 15 (first|refine pu_ HT_ ?_|refine tk_ HT_ HW_ hHeld ?_)
          refine cg_ 29 (bmp 60 30) (some 36) Tryz.func30 #[.string aD] HT_ ?_
          with_reducible refine(i7_script.calls k aD true _ A51.out).mono ?_
          rintro e w' ⟨rfl,⟨nd,rfl⟩⟩;refine⟨_,rfl,s5_ aA,fun hHeld=>nm_ ?_⟩
          iterate 3 (refine pu_ HT_ ?_)
          refine pg_ 35 (bm 60 42949672959) HT_ ?_;refine tg_ 33 (bm 60 51539607551) HT_ HW_ hHeld ?_;refine tg_ 36 (bm 60 120259084287) HT_ HW_ hHeld ?_;refine cg_ 34 (bmp 60 37) (some 41) Tryz.func31 #[.string aD] HT_ ?_
          with_reducible refine(i7_title.calls aD bB _ A53.out).mono ?_
          rintro e w58 ⟨rfl,hb⟩;replace aA:=ak_ (bb_ aA hb);replace HB:=ak_ (below_step hs_ hb)
          (try clear hb)
          (try clear hb2)
          (try clear hk)
          (try clear hi)
          refine⟨_,rfl,s5_ aA,fun hHeld=>nm_ ?_⟩
          iterate 23 (first|refine sk_ HT_ ?_|refine pu_ HT_ ?_|refine tk_ HT_ HW_ hHeld ?_)
          refine dg_ HT_ ?_;try go_wp2
          go_meet
          case rel=>exact ⟨_,(false),rr_,H',⟨by first|omega|exact Nat.le_refl _⟩,⟨bk_ aA⟩,⟨hs_⟩⟩
         ·as_aux_lemma=>
          rw [if_neg c55] at H;obtain⟨gM,gN,gO⟩:=ne3_ c55;replace H:=Option.bind_eq_some_iff.mp H;obtain⟨bU,eU,H⟩:=H;try dsimp only at H
          have A59:=ak_ eU;clear eU;by_cases c60:bU=true
          ·as_aux_lemma=>
           subst c60;replace H:=it_ H;replace H:=Option.bind_eq_some_iff.mp H;obtain⟨bH,eV,H⟩:=H;try dsimp only at H
           have A61:=ak_ eV;clear eV;have H':=ak_ H;clear H;try go_wp2
           replace aA:=ak_ (blk_drew aA.out);replace HB:=ak_ (below_drew1 HB.out);refine st5_ 60 i7_Check.tab1 i7_Check.bits1 aA (fun hHeld HT_ HW_=>?_);generalize w3.drew=w62 at aA HB hHeld ⊢
           iterate 6 (first|refine pu_ HT_ ?_|refine tk_ HT_ HW_ hHeld ?_)
           refine cg_ 6 (bmp 60 7) (some 13) Tryz.func28 #[.string aE] HT_ ?_
           with_reducible refine(i7_lang.calls k aE true _ A32.out).mono ?_
           rintro e w' ⟨rfl,⟨nd,rfl⟩⟩;refine⟨_,rfl,s5_ aA,fun hHeld=>nm_ ?_⟩
           iterate 3 (refine pu_ HT_ ?_)
           refine pg_ 12 (bm 60 5119) HT_ ?_;refine tg_ 10 (bm 60 6143) HT_ HW_ hHeld ?_;refine tg_ 13 (bm 60 14335) HT_ HW_ hHeld ?_;refine cg_ 11 (bmp 60 14) (some 18) Tryz.func29 #[.string aE] HT_ ?_
           with_reducible refine(i7_Small.calls aE aV _ A34.out).mono ?_
           rintro e w63 ⟨rfl,hb⟩;replace aA:=ak_ (bb_ aA hb);replace HB:=ak_ (below_step hs_ hb)
           (try clear hb)
           (try clear hb2)
           (try clear hk)
           (try clear hi)
           refine⟨_,rfl,s5_ aA,fun hHeld=>nm_ ?_⟩
           iterate 15 (first|refine pu_ HT_ ?_|refine tk_ HT_ HW_ hHeld ?_)
           refine cg_ 29 (bmp 60 30) (some 36) Tryz.func30 #[.string aD] HT_ ?_
           with_reducible refine(i7_script.calls k aD true _ A51.out).mono ?_
           rintro e w' ⟨rfl,⟨nd,rfl⟩⟩;refine⟨_,rfl,s5_ aA,fun hHeld=>nm_ ?_⟩
           iterate 3 (refine pu_ HT_ ?_)
           refine pg_ 35 (bm 60 42949672959) HT_ ?_;refine tg_ 33 (bm 60 51539607551) HT_ HW_ hHeld ?_;refine tg_ 36 (bm 60 120259084287) HT_ HW_ hHeld ?_;refine cg_ 34 (bmp 60 37) (some 41) Tryz.func31 #[.string aD] HT_ ?_
           with_reducible refine(i7_title.calls aD bB _ A53.out).mono ?_
           rintro e w64 ⟨rfl,hb⟩;replace aA:=ak_ (bb_ aA hb);replace HB:=ak_ (below_step hs_ hb)
           (try clear hb)
           (try clear hb2)
           (try clear hk)
           (try clear hi)
           refine⟨_,rfl,s5_ aA,fun hHeld=>nm_ ?_⟩
           iterate 11 (first|refine pu_ HT_ ?_|refine tk_ HT_ HW_ hHeld ?_)
           refine cg_ 48 (bmp 60 49) (some 55) Tryz.func32 #[.string aC] HT_ ?_
           with_reducible refine(i7_region.calls k aC true _ A59.out).mono ?_
           rintro e w' ⟨rfl,⟨nd,rfl⟩⟩;refine⟨_,rfl,s5_ aA,fun hHeld=>nm_ ?_⟩
           iterate 3 (refine pu_ HT_ ?_)
           refine pg_ 54 (bm 60 22517998136852479) HT_ ?_;refine tg_ 52 (bm 60 27021597764222975) HT_ HW_ hHeld ?_;refine tg_ 55 (bm 60 63050394783186943) HT_ HW_ hHeld ?_;refine cg_ 53 (bmp 60 56) (some 60) Tryz.func33 #[.string aC] HT_ ?_
           with_reducible refine(i7_great.calls aC bH _ A61.out).mono ?_
           rintro e w65 ⟨rfl,hb⟩;replace aA:=ak_ (bb_ aA hb);replace HB:=ak_ (below_step hs_ hb)
           (try clear hb)
           (try clear hb2)
           (try clear hk)
           (try clear hi)
           refine⟨_,rfl,s5_ aA,fun hHeld=>nm_ ?_⟩
           iterate 4 (refine pu_ HT_ ?_)
           refine dg_ HT_ ?_;try go_wp2
           go_meet
           case rel=>exact ⟨_,((bH.toList != aC.toList)),rr_,H',⟨by first|omega|exact Nat.le_refl _⟩,⟨bk_ aA⟩,⟨hs_⟩⟩
          ·as_aux_lemma=>
           replace c60:=Bool.eq_false_iff.mpr c60;subst c60;replace H:=if_f_ H;have H':=ak_ H;clear H;try go_wp2
           replace aA:=ak_ (blk_drew aA.out);replace HB:=ak_ (below_drew1 HB.out);refine st5_ 60 i7_Check.tab1 i7_Check.bits1 aA (fun hHeld HT_ HW_=>?_);generalize w3.drew=w66 at aA HB hHeld ⊢
           iterate 6 (first|refine pu_ HT_ ?_|refine tk_ HT_ HW_ hHeld ?_)
           refine cg_ 6 (bmp 60 7) (some 13) Tryz.func28 #[.string aE] HT_ ?_
           with_reducible refine(i7_lang.calls k aE true _ A32.out).mono ?_
           rintro e w' ⟨rfl,⟨nd,rfl⟩⟩;refine⟨_,rfl,s5_ aA,fun hHeld=>nm_ ?_⟩
           iterate 3 (refine pu_ HT_ ?_)
           refine pg_ 12 (bm 60 5119) HT_ ?_;refine tg_ 10 (bm 60 6143) HT_ HW_ hHeld ?_;refine tg_ 13 (bm 60 14335) HT_ HW_ hHeld ?_;refine cg_ 11 (bmp 60 14) (some 18) Tryz.func29 #[.string aE] HT_ ?_
           with_reducible refine(i7_Small.calls aE aV _ A34.out).mono ?_
           rintro e w67 ⟨rfl,hb⟩;replace aA:=ak_ (bb_ aA hb);replace HB:=ak_ (below_step hs_ hb)
           (try clear hb)
           (try clear hb2)
           (try clear hk)
           (try clear hi)
           refine⟨_,rfl,s5_ aA,fun hHeld=>nm_ ?_⟩
           iterate 15 (first|refine pu_ HT_ ?_|refine tk_ HT_ HW_ hHeld ?_)
           refine cg_ 29 (bmp 60 30) (some 36) Tryz.func30 #[.string aD] HT_ ?_
           with_reducible refine(i7_script.calls k aD true _ A51.out).mono ?_
           rintro e w' ⟨rfl,⟨nd,rfl⟩⟩;refine⟨_,rfl,s5_ aA,fun hHeld=>nm_ ?_⟩
           iterate 3 (refine pu_ HT_ ?_)
           refine pg_ 35 (bm 60 42949672959) HT_ ?_;refine tg_ 33 (bm 60 51539607551) HT_ HW_ hHeld ?_;refine tg_ 36 (bm 60 120259084287) HT_ HW_ hHeld ?_;refine cg_ 34 (bmp 60 37) (some 41) Tryz.func31 #[.string aD] HT_ ?_
           with_reducible refine(i7_title.calls aD bB _ A53.out).mono ?_
           rintro e w68 ⟨rfl,hb⟩;replace aA:=ak_ (bb_ aA hb);replace HB:=ak_ (below_step hs_ hb)
           (try clear hb)
           (try clear hb2)
           (try clear hk)
           (try clear hi)
           refine⟨_,rfl,s5_ aA,fun hHeld=>nm_ ?_⟩
           iterate 11 (first|refine pu_ HT_ ?_|refine tk_ HT_ HW_ hHeld ?_)
           refine cg_ 48 (bmp 60 49) (some 55) Tryz.func32 #[.string aC] HT_ ?_
           with_reducible refine(i7_region.calls k aC false _ A59.out).mono ?_
           rintro e w' ⟨rfl,⟨nd,rfl⟩⟩;refine⟨_,rfl,s5_ aA,fun hHeld=>nm_ ?_⟩
           iterate 11 (first|refine sk_ HT_ ?_|refine pu_ HT_ ?_)
           refine dg_ HT_ ?_;try go_wp2
           go_meet
           case rel=>exact ⟨_,(true),rr_,H',⟨by first|omega|exact Nat.le_refl _⟩,⟨bk_ aA⟩,⟨hs_⟩⟩
        ·as_aux_lemma=>
         rw [if_neg c54] at H;obtain⟨gK,gL⟩:=ne2_ c54;have H':=ak_ H;clear H;try go_wp2
         replace aA:=ak_ (blk_drew aA.out);replace HB:=ak_ (below_drew1 HB.out);refine st5_ 60 i7_Check.tab1 i7_Check.bits1 aA (fun hHeld HT_ HW_=>?_);generalize w3.drew=w69 at aA HB hHeld ⊢
         iterate 6 (first|refine pu_ HT_ ?_|refine tk_ HT_ HW_ hHeld ?_)
         refine cg_ 6 (bmp 60 7) (some 13) Tryz.func28 #[.string aE] HT_ ?_
         with_reducible refine(i7_lang.calls k aE true _ A32.out).mono ?_
         rintro e w' ⟨rfl,⟨nd,rfl⟩⟩;refine⟨_,rfl,s5_ aA,fun hHeld=>nm_ ?_⟩
         iterate 3 (refine pu_ HT_ ?_)
         refine pg_ 12 (bm 60 5119) HT_ ?_;refine tg_ 10 (bm 60 6143) HT_ HW_ hHeld ?_;refine tg_ 13 (bm 60 14335) HT_ HW_ hHeld ?_;refine cg_ 11 (bmp 60 14) (some 18) Tryz.func29 #[.string aE] HT_ ?_
         with_reducible refine(i7_Small.calls aE aV _ A34.out).mono ?_
         rintro e w70 ⟨rfl,hb⟩;replace aA:=ak_ (bb_ aA hb);replace HB:=ak_ (below_step hs_ hb)
         (try clear hb)
         (try clear hb2)
         (try clear hk)
         (try clear hi)
         refine⟨_,rfl,s5_ aA,fun hHeld=>nm_ ?_⟩
         iterate 15 (first|refine pu_ HT_ ?_|refine tk_ HT_ HW_ hHeld ?_)
         refine cg_ 29 (bmp 60 30) (some 36) Tryz.func30 #[.string aD] HT_ ?_
         with_reducible refine(i7_script.calls k aD true _ A51.out).mono ?_
         rintro e w' ⟨rfl,⟨nd,rfl⟩⟩;refine⟨_,rfl,s5_ aA,fun hHeld=>nm_ ?_⟩
         iterate 3 (refine pu_ HT_ ?_)
         refine pg_ 35 (bm 60 42949672959) HT_ ?_;refine tg_ 33 (bm 60 51539607551) HT_ HW_ hHeld ?_;refine tg_ 36 (bm 60 120259084287) HT_ HW_ hHeld ?_;refine cg_ 34 (bmp 60 37) (some 41) Tryz.func31 #[.string aD] HT_ ?_
         with_reducible refine(i7_title.calls aD bB _ A53.out).mono ?_
         rintro e w71 ⟨rfl,hb⟩;replace aA:=ak_ (bb_ aA hb);replace HB:=ak_ (below_step hs_ hb)
         (try clear hb)
         (try clear hb2)
         (try clear hk)
         (try clear hi)
         refine⟨_,rfl,s5_ aA,fun hHeld=>nm_ ?_⟩
         iterate 23 (first|refine sk_ HT_ ?_|refine pu_ HT_ ?_)
         refine dg_ HT_ ?_;try go_wp2
         go_meet
         case rel=>exact ⟨_,(true),rr_,H',⟨by first|omega|exact Nat.le_refl _⟩,⟨bk_ aA⟩,⟨hs_⟩⟩
       ·as_aux_lemma=>
        replace c52:=Bool.eq_false_iff.mpr c52;subst c52;replace H:=if_f_ H;have H':=ak_ H;clear H;try go_wp2
        replace aA:=ak_ (blk_drew aA.out);replace HB:=ak_ (below_drew1 HB.out);refine st5_ 60 i7_Check.tab1 i7_Check.bits1 aA (fun hHeld HT_ HW_=>?_);generalize w3.drew=w72 at aA HB hHeld ⊢
        iterate 6 (first|refine pu_ HT_ ?_|refine tk_ HT_ HW_ hHeld ?_)
        refine cg_ 6 (bmp 60 7) (some 13) Tryz.func28 #[.string aE] HT_ ?_
        with_reducible refine(i7_lang.calls k aE true _ A32.out).mono ?_
        rintro e w' ⟨rfl,⟨nd,rfl⟩⟩;refine⟨_,rfl,s5_ aA,fun hHeld=>nm_ ?_⟩
        iterate 3 (refine pu_ HT_ ?_)
        refine pg_ 12 (bm 60 5119) HT_ ?_;refine tg_ 10 (bm 60 6143) HT_ HW_ hHeld ?_;refine tg_ 13 (bm 60 14335) HT_ HW_ hHeld ?_;refine cg_ 11 (bmp 60 14) (some 18) Tryz.func29 #[.string aE] HT_ ?_
        with_reducible refine(i7_Small.calls aE aV _ A34.out).mono ?_
        rintro e w73 ⟨rfl,hb⟩;replace aA:=ak_ (bb_ aA hb);replace HB:=ak_ (below_step hs_ hb)
        (try clear hb)
        (try clear hb2)
        (try clear hk)
        (try clear hi)
        refine⟨_,rfl,s5_ aA,fun hHeld=>nm_ ?_⟩
        iterate 15 (first|refine pu_ HT_ ?_|refine tk_ HT_ HW_ hHeld ?_)
        refine cg_ 29 (bmp 60 30) (some 36) Tryz.func30 #[.string aD] HT_ ?_
        with_reducible refine(i7_script.calls k aD false _ A51.out).mono ?_
        rintro e w' ⟨rfl,⟨nd,rfl⟩⟩;refine⟨_,rfl,s5_ aA,fun hHeld=>nm_ ?_⟩
        iterate 30 (first|refine sk_ HT_ ?_|refine pu_ HT_ ?_)
        refine dg_ HT_ ?_;try go_wp2
        go_meet
        case rel=>exact ⟨_,(true),rr_,H',⟨by first|omega|exact Nat.le_refl _⟩,⟨bk_ aA⟩,⟨hs_⟩⟩
    ·as_aux_lemma=>
     rw [if_neg c35] at H;obtain⟨gA,gB⟩:=ne2_ c35;have H':=ak_ H;clear H;try go_wp2
     replace aA:=ak_ (blk_drew aA.out);replace HB:=ak_ (below_drew1 HB.out);refine st5_ 60 i7_Check.tab1 i7_Check.bits1 aA (fun hHeld HT_ HW_=>?_);generalize w3.drew=w74 at aA HB hHeld ⊢
     iterate 6 (first|refine pu_ HT_ ?_|refine tk_ HT_ HW_ hHeld ?_)
     refine cg_ 6 (bmp 60 7) (some 13) Tryz.func28 #[.string aE] HT_ ?_
     with_reducible refine(i7_lang.calls k aE true _ A32.out).mono ?_
     rintro e w' ⟨rfl,⟨nd,rfl⟩⟩;refine⟨_,rfl,s5_ aA,fun hHeld=>nm_ ?_⟩
     iterate 3 (refine pu_ HT_ ?_)
     refine pg_ 12 (bm 60 5119) HT_ ?_;refine tg_ 10 (bm 60 6143) HT_ HW_ hHeld ?_;refine tg_ 13 (bm 60 14335) HT_ HW_ hHeld ?_;refine cg_ 11 (bmp 60 14) (some 18) Tryz.func29 #[.string aE] HT_ ?_
     with_reducible refine(i7_Small.calls aE aV _ A34.out).mono ?_
     rintro e w75 ⟨rfl,hb⟩;replace aA:=ak_ (bb_ aA hb);replace HB:=ak_ (below_step hs_ hb)
     (try clear hb)
     (try clear hb2)
     (try clear hk)
     (try clear hi)
     refine⟨_,rfl,s5_ aA,fun hHeld=>nm_ ?_⟩
     iterate 46 (first|refine sk_ HT_ ?_|refine pu_ HT_ ?_)
     refine dg_ HT_ ?_;try go_wp2
     go_meet
     case rel=>exact ⟨_,(true),rr_,H',⟨by first|omega|exact Nat.le_refl _⟩,⟨bk_ aA⟩,⟨hs_⟩⟩
   ·as_aux_lemma=>
    replace c33:=Bool.eq_false_iff.mpr c33;subst c33;replace H:=if_f_ H;have H':=ak_ H;clear H;try go_wp2
    replace aA:=ak_ (blk_drew aA.out);replace HB:=ak_ (below_drew1 HB.out);refine st5_ 60 i7_Check.tab1 i7_Check.bits1 aA (fun hHeld HT_ HW_=>?_);generalize w3.drew=w76 at aA HB hHeld ⊢
    iterate 6 (first|refine pu_ HT_ ?_|refine tk_ HT_ HW_ hHeld ?_)
    refine cg_ 6 (bmp 60 7) (some 13) Tryz.func28 #[.string aE] HT_ ?_
    with_reducible refine(i7_lang.calls k aE false _ A32.out).mono ?_
    rintro e w' ⟨rfl,⟨nd,rfl⟩⟩;refine⟨_,rfl,s5_ aA,fun hHeld=>nm_ ?_⟩
    iterate 53 (first|refine sk_ HT_ ?_|refine pu_ HT_ ?_)
    refine dg_ HT_ ?_;try go_wp2
    go_meet
    case rel=>exact ⟨_,(true),rr_,H',⟨by first|omega|exact Nat.le_refl _⟩,⟨bk_ aA⟩,⟨hs_⟩⟩
 case rest =>
  clear HC2;obtain⟨kq,cJ,rfl,HA,HJ1,aA,HB⟩:=hcut;cases kq with
  |zero=>exact absurd HA.out (by simp [i7_Check.j0])
  | succ kj1 =>
   have H:=HA.out;clear HA;simp only [i7_Check.j0] at H;by_cases c77:cJ=true
   ·as_aux_lemma=>
    subst c77;replace H:=it_ H;obtain rfl:=Option.some.inj H
    go_wp2
    go_ret
    exact⟨re_,hs_⟩
   ·as_aux_lemma =>
    replace c77:=Bool.eq_false_iff.mpr c77;subst c77;replace H:=if_f_ H;by_cases c78:(aF.length:Int)>64
    ·as_aux_lemma=>
     rw [if_pos c78] at H;have eW:decide (64<(aF.length:Int))=true:=decide_eq_true c78;have eX:decide (64<aF.length)=true:=decide_eq_true (by omega)
     clear c78;obtain rfl:=Option.some.inj H;obtain⟨jN,jO,jP,jQ,jR,jS,jT,jU,jV,jW⟩:=c5_ aA
     go_wp2
     go_ret
     exact⟨re_,hs_⟩
    ·as_aux_lemma =>
     rw [if_neg c78] at H;have eW:decide (64<(aF.length:Int))=false:=decide_eq_false c78;have eX:decide (64<aF.length)=false:=decide_eq_false (by omega)
     clear c78;have H':=ak_ H;clear H;obtain⟨gP,gQ,gR,gS,gT,gU,gV,gW,gX,gY⟩:=c5_ aA
     go_wp2
     go_loopg [3] kj1 (fun kq v3 w'=>∃ (aK:Int),v3=.int .i64 aK∧Aside0 (i7_Check.l0 kq aK aE aD aC aF aB=some r)∧Aside0 (kq≤kj1)∧Aside0 (w'.heap[aP]?=some (.cells #[.string aE,.string aD,.string aC,(.slice aW aF.length aQ),(.slice bC aB.length aR)] 25 (0,0)))∧Aside0 (Below w.heap.size w w'))
     case atStart=>exact ⟨(0),rr_,H',⟨Nat.le_refl _⟩,⟨bk_ aA⟩,⟨hs_⟩⟩
     case round =>
      clear H';clear eW eX gP gQ gR gS gT gU gV gW gX gY;obtain⟨aK,rfl,HA,HK2,aA,HB⟩:=hrel;cases gk with
      |zero=>exact absurd HA.out (by simp [i7_Check.l0])
      | succ k2 =>
       have H:=HA.out;clear HA;simp only [i7_Check.l0] at H;by_cases c81:aK<(aF.length:Int)
       ·as_aux_lemma=>
        rw [if_pos c81] at H;have dQ:decide (aK<(aF.length:Int))=true:=decide_eq_true c81;clear c81;by_cases c82:0≤aK
        ·as_aux_lemma=>
         rw [if_pos c82] at H;have gZ:decide (0≤aK)=true:=decide_eq_true c82;clear c82;have dR:=ak_ H;clear H;obtain⟨hA,hB,hC,hD,hE,hF,hG,hH,hI,hJ⟩:=c5_ aA;have cK:0≤(aK:Int):=od_;have cL:aK<(aF.length:Int):=od_;obtain⟨bW,hL,cM⟩:=Kd.at_string dM.out aK cK cL;cases hL;replace cM:=hx_ HB.out cM;replace cK:=eq_true cK;replace cL:=eq_true cL
         go_upto_region 9 with (fail)
         go_cut [91] (fun v91 wc=>∃ (kq:Nat) (cN:Bool),v91=.bool cN∧Aside0 (i7_Check.j2 kq aK (rdOf ByteArray.empty aF aK) cN aE aD aC aF aB=some r)∧Aside0 (kq≤k2)∧Aside0 (wc.heap[aP]?=some (.cells #[.string aE,.string aD,.string aC,(.slice (some bW) aF.length aQ),(.slice bC aB.length aR)] 25 (0,0)))∧Aside0 (Below w.heap.size w wc))
         case first=>
          have H:=dR.out;clear dR;replace H:=Option.bind_eq_some_iff.mp H;obtain⟨dJ,eY,H⟩:=H;try dsimp only at H
          have A85:=ak_ eY;clear eY;by_cases c86:dJ=true
          ·as_aux_lemma=>
           subst c86;replace H:=it_ H;replace H:=Option.bind_eq_some_iff.mp H;obtain⟨cH,eZ,H⟩:=H;try dsimp only at H
           have A87:=ak_ eZ;clear eZ;have H':=ak_ H;clear H
           go_wp2_with (first|((with_reducible refine gate_callee (f:=34) rfl ?_);refine gb_ (some 84) Tryz.func34 #[.string (rdOf ByteArray.empty aF aK)] ?_;(with_reducible refine(i7_variant.calls k2 (rdOf ByteArray.empty aF aK) true _ A85.out).mono ?_);rintro e w' ⟨rfl,⟨nd,rfl⟩⟩;refine⟨_,rfl,?_⟩)|(go_at_call 29;(with_reducible refine(i7_Small.calls (rdOf ByteArray.empty aF aK) cH _ A87.out).mono ?_);rintro e w88 ⟨rfl,hb⟩;replace aA:=ak_ (bb_ aA hb);replace HB:=ak_ (below_step hs_ hb);try clear hb))
           go_meet
           case rel=>exact ⟨_,((cH.toList != (rdOf ByteArray.empty aF aK).toList)),rr_,H',⟨by have:=HJ1.out;have:=HK2.out;first|omega|exact Nat.le_refl _⟩,⟨bk_ aA⟩,⟨hs_⟩⟩
          ·as_aux_lemma=>
           replace c86:=Bool.eq_false_iff.mpr c86;subst c86;replace H:=if_f_ H;have H':=ak_ H;clear H
           go_wp2_with (first|((with_reducible refine gate_callee (f:=34) rfl ?_);refine gb_ (some 84) Tryz.func34 #[.string (rdOf ByteArray.empty aF aK)] ?_;(with_reducible refine(i7_variant.calls k2 (rdOf ByteArray.empty aF aK) false _ A85.out).mono ?_);rintro e w' ⟨rfl,⟨nd,rfl⟩⟩;refine⟨_,rfl,?_⟩))
           go_meet
           case rel=>exact ⟨_,(true),rr_,H',⟨by have:=HJ1.out;have:=HK2.out;first|omega|exact Nat.le_refl _⟩,⟨bk_ aA⟩,⟨hs_⟩⟩
         case rest =>
          clear dR;clear dQ gZ hA hB hC hD hE hF hG hH hI hJ cM cK cL;obtain⟨kq,cN,rfl,HA,HJ82,aA,HB⟩:=hcut;cases kq with
          |zero=>exact absurd HA.out (by simp [i7_Check.j2])
          | succ kj82=>
           have H:=HA.out;clear HA;simp only [i7_Check.j2] at H;by_cases c89:cN=true
           ·as_aux_lemma=>
            subst c89;replace H:=it_ H;obtain rfl:=Option.some.inj H
            go_wp2
            go_ret
            exact⟨re_,hs_⟩
           ·as_aux_lemma=>
            replace c89:=Bool.eq_false_iff.mpr c89;subst c89;replace H:=if_f_ H;have dS:=ak_ H;clear H
            go_upto_region 11 with (fail)
            go_cut [103] (fun hM wc=>∃ (kq:Nat) (cO:Bool),hM=.bool cO∧Aside0 (i7_Check.j3 kq aK (rdOf ByteArray.empty aF aK) cO aE aD aC aF aB=some r)∧Aside0 (kq≤kj82)∧Aside0 (wc.heap[aP]?=some (.cells #[.string aE,.string aD,.string aC,(.slice (some bW) aF.length aQ),(.slice bC aB.length aR)] 25 (0,0)))∧Aside0 (Below w.heap.size w wc))
            case first=>
             have H:=dS.out;clear dS;by_cases c91:aK>0
             ·as_aux_lemma=>
              rw [if_pos c91] at H;have bX:decide (0<aK)=true:=decide_eq_true c91;clear c91
              (first|rw [bX]|rw [hN]|rw [hO]|(simp only [i64_w,i32_w];rw [bX])|skip)
              (try simp only [Bool.not_true,Bool.not_false])
              obtain⟨aY,hji92⟩:∃ j_:Int,(wrap64 (aK - 1))=j_:=⟨_,rfl⟩;replace H:(if 0≤(aY) then(if (aY)<(aF.length:Int) then(i7_Check.j3 kj82 aK (rdOf ByteArray.empty aF aK) ((rdOf ByteArray.empty aF (aY)).toList==(rdOf ByteArray.empty aF aK).toList) aE aD aC aF aB) else(none)) else(none))=some r:=by first|(rw [hji92] at H;exact H)|(simp only [hji92] at H ⊢;exact H)
              have hji92w:(IntKind.i64.wrap (aK - 1))=aY:=(i64_w _).trans hji92;by_cases c93:0≤(aY)
              ·as_aux_lemma=>
               rw [if_pos c93] at H;have c93b0:decide (0≤(aY))=true:=decide_eq_true c93;clear c93;by_cases c94:(aY)<(aF.length:Int)
               ·as_aux_lemma=>
                rw [if_pos c94] at H;have c94b0:decide ((aY)<(aF.length:Int))=true:=decide_eq_true c94;clear c94;have H':=ak_ H;clear H;obtain⟨jX,jY,jZ,kA,kB,kC,kD,kE,kF,kG⟩:=c5_ aA;have dT:0≤((aY):Int):=od_;have dU:(aY)<(aF.length:Int):=od_;obtain⟨hP,hQ,dV⟩:=Kd.at_string dM.out (aY) dT dU;obtain rfl:bW=hP:=(by injection hQ)
                replace dV:=hx_ HB.out dV;replace dT:=eq_true dT;replace dU:=eq_true dU
                go_wp2
                go_meet
                case rel=>exact ⟨_,(((rdOf ByteArray.empty aF (aY)).toList==(rdOf ByteArray.empty aF aK).toList)),(by first|rfl|(simp;done)|(simp only [← hji92] <;> (first|rfl|simp))|(simp [*];done)),H',⟨by have:=HJ1.out;have:=HK2.out;have:=HJ82.out;first|omega|exact Nat.le_refl _⟩,⟨bk_ aA⟩,⟨hs_⟩⟩
               ·as_aux_lemma=>
                rw [if_neg c94] at H;exact absurd H (by simp)
              ·as_aux_lemma=>
               rw [if_neg c93] at H;exact absurd H (by simp)
             ·as_aux_lemma=>
              rw [if_neg c91] at H;have bX:decide (0<aK)=false:=decide_eq_false c91;clear c91
              (first|rw [bX]|rw [hN]|rw [hO]|(simp only [i64_w,i32_w];rw [bX])|skip)
              (try simp only [Bool.not_true,Bool.not_false])
              have H':=ak_ H;clear H
              go_wp2
              go_meet
              case rel=>exact ⟨_,(false),rr_,H',⟨by have:=HJ1.out;have:=HK2.out;have:=HJ82.out;first|omega|exact Nat.le_refl _⟩,⟨bk_ aA⟩,⟨hs_⟩⟩
            case rest=>
             clear dS;obtain⟨kq,cO,rfl,HA,HJ89,aA,HB⟩:=hcut;cases kq with
             |zero=>exact absurd HA.out (by simp [i7_Check.j3])
             | succ kj89=>
              have H:=HA.out;clear HA;simp only [i7_Check.j3] at H;by_cases c96:cO=true
              ·as_aux_lemma=>
               subst c96;replace H:=it_ H;obtain rfl:=Option.some.inj H
               go_wp2
               go_ret
               exact⟨re_,hs_⟩
              ·as_aux_lemma=>
               replace c96:=Bool.eq_false_iff.mpr c96;subst c96;replace H:=if_f_ H;have dW:=ak_ H;clear H
               go_upto_region 13 with (fail)
               go_cut [115] (fun hR wc=>∃ (kq:Nat) (cP:Bool),hR=.bool cP∧Aside0 (i7_Check.j4 kq aK cP aE aD aC aF aB=some r)∧Aside0 (kq≤kj89)∧Aside0 (wc.heap[aP]?=some (.cells #[.string aE,.string aD,.string aC,(.slice (some bW) aF.length aQ),(.slice bC aB.length aR)] 25 (0,0)))∧Aside0 (Below w.heap.size w wc))
               case first=>
                have H:=dW.out;clear dW;by_cases c98:aK>0
                ·as_aux_lemma=>
                 rw [if_pos c98] at H;have bY:decide (0<aK)=true:=decide_eq_true c98;clear c98
                 (first|rw [bY]|rw [hS]|rw [hT]|(simp only [i64_w,i32_w];rw [bY])|skip)
                 (try simp only [Bool.not_true,Bool.not_false])
                 obtain⟨aZ,hji99⟩:∃ j_:Int,(wrap64 (aK - 1))=j_:=⟨_,rfl⟩;replace H:(if 0≤(aZ) then(if (aZ)<(aF.length:Int) then(i7_Check.j4 kj89 aK (Op.bytesLess (rdOf ByteArray.empty aF aK).toList ((rdOf ByteArray.empty aF (aZ)).toList)) aE aD aC aF aB) else(none)) else(none))=some r:=by first|(rw [hji99] at H;exact H)|(simp only [hji99] at H ⊢;exact H)
                 have hji99w:(IntKind.i64.wrap (aK - 1))=aZ:=(i64_w _).trans hji99;by_cases cQ:0≤(aZ)
                 ·as_aux_lemma=>
                  rw [if_pos cQ] at H;have kH:decide (0≤(aZ))=true:=decide_eq_true cQ;clear cQ;by_cases cR:(aZ)<(aF.length:Int)
                  ·as_aux_lemma=>
                   rw [if_pos cR] at H;have kI:decide ((aZ)<(aF.length:Int))=true:=decide_eq_true cR;clear cR;have H':=ak_ H;clear H;obtain⟨kJ,kK,kL,kM,kN,kO,kP,kQ,kR,kS⟩:=c5_ aA;have dX:0≤((aZ):Int):=od_;have dY:(aZ)<(aF.length:Int):=od_;obtain⟨hU,hV,dZ⟩:=Kd.at_string dM.out (aZ) dX dY;obtain rfl:bW=hU:=(by injection hV)
                   replace dZ:=hx_ HB.out dZ;replace dX:=eq_true dX;replace dY:=eq_true dY
                   go_wp2
                   go_meet
                   case rel=>exact ⟨_,((Op.bytesLess (rdOf ByteArray.empty aF aK).toList ((rdOf ByteArray.empty aF (aZ)).toList))),(by first|rfl|(simp;done)|(simp only [← hji99] <;> (first|rfl|simp))|(simp [*];done)),H',⟨by have:=HJ1.out;have:=HK2.out;have:=HJ82.out;have:=HJ89.out;first|omega|exact Nat.le_refl _⟩,⟨bk_ aA⟩,⟨hs_⟩⟩
                  ·as_aux_lemma=>
                   rw [if_neg cR] at H;exact absurd H (by simp)
                 ·as_aux_lemma=>
                  rw [if_neg cQ] at H;exact absurd H (by simp)
                ·as_aux_lemma=>
                 rw [if_neg c98] at H;have bY:decide (0<aK)=false:=decide_eq_false c98;clear c98
                 (first|rw [bY]|rw [hS]|rw [hT]|(simp only [i64_w,i32_w];rw [bY])|skip)
                 (try simp only [Bool.not_true,Bool.not_false])
                 have H':=ak_ H;clear H
                 go_wp2
                 go_meet
                 case rel=>exact ⟨_,(false),rr_,H',⟨by have:=HJ1.out;have:=HK2.out;have:=HJ82.out;have:=HJ89.out;first|omega|exact Nat.le_refl _⟩,⟨bk_ aA⟩,⟨hs_⟩⟩
               case rest=>
                clear dW;obtain⟨kq,cP,rfl,HA,HJ96,aA,HB⟩:=hcut;cases kq with
                |zero=>exact absurd HA.out (by simp [i7_Check.j4])
                | succ kj96=>
                 have H:=HA.out;clear HA;simp only [i7_Check.j4] at H;by_cases cS:cP=true
                 ·as_aux_lemma=>
                  subst cS;replace H:=it_ H;obtain rfl:=Option.some.inj H
                  go_wp2
                  go_ret
                  exact⟨re_,hs_⟩
                 ·as_aux_lemma=>
                  replace cS:=Bool.eq_false_iff.mpr cS;subst cS;replace H:=if_f_ H;have H':=ak_ H;clear H
                  go_wp2
                  go_roundg kj96
                  case measure=>have:=HJ1.out;have:=HK2.out;have:=HJ82.out;have:=HJ89.out;have:=HJ96.out;omega
                  case rel=>exact ⟨(wrap64 (aK+1)),rr_,H',⟨by have:=HJ1.out;have:=HK2.out;have:=HJ82.out;have:=HJ89.out;have:=HJ96.out;omega⟩,⟨bk_ aA⟩,⟨hs_⟩⟩
        ·as_aux_lemma=>
         rw [if_neg c82] at H;exact absurd H (by simp)
       ·as_aux_lemma =>
        rw [if_neg c81] at H;have dQ:decide (aK<(aF.length:Int))=false:=decide_eq_false c81;clear c81;by_cases bI:(aB.length:Int)>64
        ·as_aux_lemma=>
         rw [if_pos bI] at H;have fA:decide (64<(aB.length:Int))=true:=decide_eq_true bI;have fB:decide (64<aB.length)=true:=decide_eq_true (by omega)
         clear bI;obtain rfl:=Option.some.inj H;obtain⟨kT,kU,kV,kW,kX,kY,kZ,lA,lB,lC⟩:=c5_ aA
         go_wp2
         go_ret
         exact⟨re_,hs_⟩
        ·as_aux_lemma =>
         rw [if_neg bI] at H;have fA:decide (64<(aB.length:Int))=false:=decide_eq_false bI;have fB:decide (64<aB.length)=false:=decide_eq_false (by omega)
         clear bI;have H':=ak_ H;clear H;obtain⟨hW,hX,hY,hZ,iA,iB,iC,iD,iE,iF⟩:=c5_ aA
         go_wp2
         go_loopg [5] k2 (fun kq v5 w'=>∃ (aG:Int),v5=.int .i64 aG∧Aside0 (i7_Check.l1 kq aG aE aD aC aF aB=some r)∧Aside0 (kq≤k2)∧Aside0 (w'.heap[aP]?=some (.cells #[.string aE,.string aD,.string aC,(.slice aW aF.length aQ),(.slice bC aB.length aR)] 25 (0,0)))∧Aside0 (Below w.heap.size w w'))
         case atStart=>exact ⟨(0),rr_,H',⟨Nat.le_refl _⟩,⟨bk_ aA⟩,⟨hs_⟩⟩
         case round =>
          clear H';clear dQ fA fB hW hX hY hZ iA iB iC iD iE iF;obtain⟨aG,rfl,HA,HK3,aA,HB⟩:=hrel;cases gk with
          |zero=>exact absurd HA.out (by simp [i7_Check.l1])
          | succ k3 =>
           have H:=HA.out;clear HA;simp only [i7_Check.l1] at H;by_cases bJ:aG<(aB.length:Int)
           ·as_aux_lemma=>
            rw [if_pos bJ] at H;have iG:decide (aG<(aB.length:Int))=true:=decide_eq_true bJ;clear bJ;by_cases cT:0≤aG
            ·as_aux_lemma=>
             rw [if_pos cT] at H;have lD:decide (0≤aG)=true:=decide_eq_true cT;clear cT;have eA:=ak_ H;clear H;obtain⟨iH,iI,iJ,iK,iL,iM,iN,iO,iP,iQ⟩:=c5_ aA;have cU:0≤(aG:Int):=od_;have cV:aG<(aB.length:Int):=od_;obtain⟨aU,iR,cW,cX⟩:=at_T39 dN.out aG cU cV;cases iR;replace cW:=hx_ HB.out cW;replace cX:=hx_ HB.out cX;replace cU:=eq_true cU;replace cV:=eq_true cV
             go_upto_region 21 with (first|((with_reducible refine gate_dst (N:=6) rfl ?_);refine bx_ 6 #[.string ⟨#[]⟩,.string ⟨#[]⟩] 39 ?_;intro aI hg aX hbox hb;have aH:=ak_ (hbox);have GW158:=ak_ (gw_ hg);have GE158:=ak_ (gw_ hg);replace HB:=ak_ (below_step hs_ hb);have bD:=ak_ (nl_ aA hg);have iS:=ak_ (ng_ aA hg);replace aA:=ak_ (bb_ aA hb);clear hb hbox hg;have lE:=iS.out;have lF:=bD.out;have iT:aX.cell? ⟨aI,0,none⟩=some (.string ⟨#[]⟩):=(blk_cell aH.out 0).trans rfl;have iU:aX.cell? ⟨aI,1,none⟩=some (.string ⟨#[]⟩):=(blk_cell aH.out 1).trans rfl;have iV:=blk_frozen aH.out 0;have iW:=blk_frozen aH.out 1))
             (try simp only [Act.put,List.setIfInBounds_toArray,List.set_cons_zero,List.set_cons_succ])
             go_cut [149] (fun iX wc=>∃ (kq:Nat) (cY:Bool),iX=.bool cY∧Aside0 (i7_Check.j6 kq aG cY aE aD aC aF aB ((rd_T39 aB aG).f0) ((rd_T39 aB aG).f1)=some r)∧Aside0 (kq≤k3)∧Aside0 (wc.heap[aP]?=some (.cells #[.string aE,.string aD,.string aC,(.slice aW aF.length aQ),(.slice (some aU) aB.length aR)] 25 (0,0)))∧Aside0 (wc.heap[aI]?=some (.cells #[.string ((rd_T39 aB aG).f0),.string ((rd_T39 aB aG).f1)] 39 (0,0)))∧Aside0 (Below w.heap.size w wc))
             case first=>
              have H:=eA.out;clear eA;replace H:=Option.bind_eq_some_iff.mp H;obtain⟨dK,fC,H⟩:=H;try dsimp only at H
              have eB:=ak_ fC;clear fC;by_cases cZ:dK=true
              ·as_aux_lemma=>
               subst cZ;replace H:=it_ H;replace H:=Option.bind_eq_some_iff.mp H;obtain⟨bM,fD,H⟩:=H;try dsimp only at H
               have fE:=ak_ fD;clear fD;by_cases bZ:bM.toList=((rd_T39 aB aG).f0).toList
               ·as_aux_lemma=>
                rw [if_pos bZ] at H;obtain⟨cA,eC⟩:=eq2_ bZ;clear bZ
                (first|rw [cA]|rw [eC]|rw [iY]|(simp only [i64_w,i32_w];rw [cA])|skip)
                (try simp only [Bool.not_true,Bool.not_false])
                replace H:=Option.bind_eq_some_iff.mp H;obtain⟨cI,fF,H⟩:=H;try dsimp only at H
                have iZ:=ak_ fF;clear fF;have H':=ak_ H;clear H;try go_wp2
                have n0_:Aside0 (((aX.setCell ⟨aI,0,none⟩ (.string ((rd_T39 aB aG).f0))).setCell ⟨aI,1,none⟩ (.string ((rd_T39 aB aG).f1))).heap[aP]?=some (.cells #[.string aE,.string aD,.string aC,.slice aW aF.length aQ,.slice (some aU) aB.length aR] 25 (0,0))):=⟨by refine blk_far ?_ bD.out _;refine blk_far ?_ bD.out _;(with_reducible repeat (first|refine blk_drewN ?_ _|refine blk_drew ?_|refine blk_alloc ?_ _));exact aA.out⟩
                have n1_:Aside0 (((aX.setCell ⟨aI,0,none⟩ (.string ((rd_T39 aB aG).f0))).setCell ⟨aI,1,none⟩ (.string ((rd_T39 aB aG).f1))).heap[aI]?=some (.cells #[.string ((rd_T39 aB aG).f0),.string ((rd_T39 aB aG).f1)] 39 (0,0))):=⟨by refine blk_put (cs:=#[.string ((rd_T39 aB aG).f0),.string ⟨#[]⟩]) ?_ 1 _ rfl;refine blk_put (cs:=#[.string ⟨#[]⟩,.string ⟨#[]⟩]) ?_ 0 _ rfl;(with_reducible repeat (first|refine blk_drewN ?_ _|refine blk_drew ?_|refine blk_alloc ?_ _));exact aH.out⟩
                have n2_:Aside0 (Below w.heap.size w ((aX.setCell ⟨aI,0,none⟩ (.string ((rd_T39 aB aG).f0))).setCell ⟨aI,1,none⟩ (.string ((rd_T39 aB aG).f1)))):=⟨hs_⟩
                (try clear aA)
                (try clear aH)
                (try clear HB)
                generalize ((aX.setCell ⟨aI,0,none⟩ (.string ((rd_T39 aB aG).f0))).setCell ⟨aI,1,none⟩ (.string ((rd_T39 aB aG).f1)))=jA at n0_ n1_ n2_ ⊢;have aA:=n0_;have aH:=n1_;have HB:=n2_;clear n0_ n1_ n2_;replace aA:=ak_ (blk_drew aA.out);replace aH:=ak_ (blk_drew aH.out);replace HB:=ak_ (below_drew1 HB.out);refine start_ (n:=18) (S:=fun w'=>w'.cell? ⟨aI,0,none⟩=some (.string ((rd_T39 aB aG).f0))∧w'.cell? ⟨aI,1,none⟩=some (.string ((rd_T39 aB aG).f1))) (ds:=[]) (bmp 18 0) (by kernel_rfl) rfl rfl ⟨(blk_cell aH.out 0).trans rfl,(blk_cell aH.out 1).trans rfl⟩ (fun hHeld=>?_);refine with_tabW i7_Check.tab21 i7_Check.bits21 (fun HT_ HW_=>?_)
                generalize jA.drew=w120 at aA aH HB hHeld ⊢
                iterate 2 (first|refine pu_ HT_ ?_|refine tk_ HT_ HW_ hHeld ?_)
                refine one_ (i:=2) (N:=some 134) (bmp 18 3) rfl rfl (one_of HT_.out (by kernel_rfl)) (by decide) (fun K hK=>?_)
                refine goes_ Tryz.func35 (by kernel_rfl) rfl #[.string ((rd_T39 aB aG).f0),.int .i64 2,.int .i64 2] (by rfl) rfl rfl (by(try simp only [List.map_toArray,List.map_cons,List.map_nil]);first|done|rfl|(simp only [List.length_drop,List.length_take];rfl)) ?_
                with_reducible refine(i7_signs.calls k3 ((rd_T39 aB aG).f0) 2 2 true _ eB.out).mono ?_
                rintro e w' ⟨rfl,⟨nd,rfl⟩⟩;refine⟨_,rfl,?_⟩;refine hK.out _ _ ⟨(blk_cell aH.out 0).trans rfl,(blk_cell aH.out 1).trans rfl⟩ (fun hHeld=>?_);clear hK K;refine norm_ (a':=?_) ?_ ?_
                rotate_left
                ·as_aux_lemma=>
                 show Act.put _ (some 134) _=_;simp only [Act.put,List.setIfInBounds_toArray,List.set_cons_zero,List.set_cons_succ,i64_w,i32_w];rfl
                iterate 3 (refine pu_ HT_ ?_)
                refine pg_ 8 (bm 18 319) HT_ ?_;refine tg_ 6 (bm 18 383) HT_ HW_ hHeld ?_;refine tg_ 9 (bm 18 895) HT_ HW_ hHeld ?_;refine one_ (i:=7) (N:=some 139) (bmp 18 10) rfl rfl (one_of HT_.out (by kernel_rfl)) (by decide) (fun K hK=>?_)
                refine goes_ Tryz.func29 (by kernel_rfl) rfl #[.string ((rd_T39 aB aG).f0)] (by rfl) rfl rfl (by(try simp only [List.map_toArray,List.map_cons,List.map_nil]);first|done|rfl|(simp only [List.length_drop,List.length_take];rfl)) ?_
                with_reducible refine(i7_Small.calls ((rd_T39 aB aG).f0) bM _ fE.out).mono ?_
                rintro e w121 ⟨rfl,hb⟩;refine⟨_,rfl,?_⟩;replace aA:=ak_ (bb_ aA hb);replace aH:=ak_ (bb_ aH hb);replace HB:=ak_ (below_step hs_ hb)
                (try clear hb)
                (try clear hb2)
                (try clear hk)
                (try clear hi)
                refine hK.out _ _ ⟨(blk_cell aH.out 0).trans rfl,(blk_cell aH.out 1).trans rfl⟩ (fun hHeld=>?_);clear hK K;refine norm_ (a':=?_) ?_ ?_
                rotate_left
                ·as_aux_lemma=>
                 show Act.put _ (some 139) _=_;simp only [Act.put,List.setIfInBounds_toArray,List.set_cons_zero,List.set_cons_succ,i64_w,i32_w];rfl
                iterate 5 (first|refine pu_ HT_ ?_|refine tk_ HT_ HW_ hHeld ?_)
                refine one_ (i:=15) (N:=some 147) (bmp 18 16) rfl rfl (one_of HT_.out (by kernel_rfl)) (by decide) (fun K hK=>?_)
                refine goes_ Tryz.func36 (by kernel_rfl) rfl #[.string ((rd_T39 aB aG).f1)] (by rfl) rfl rfl (by(try simp only [List.map_toArray,List.map_cons,List.map_nil]);first|done|rfl|(simp only [List.length_drop,List.length_take];rfl)) ?_
                with_reducible refine(i7_value.calls k3 ((rd_T39 aB aG).f1) cI _ iZ.out).mono ?_
                rintro e w122 ⟨rfl,hb⟩;refine⟨_,rfl,?_⟩;replace aA:=ak_ (bb_ aA hb);replace aH:=ak_ (bb_ aH hb);replace HB:=ak_ (below_step hs_ hb)
                (try clear hb)
                (try clear hb2)
                (try clear hk)
                (try clear hi)
                refine hK.out _ _ ⟨(blk_cell aH.out 0).trans rfl,(blk_cell aH.out 1).trans rfl⟩ (fun hHeld=>?_);clear hK K;refine norm_ (a':=?_) ?_ ?_
                rotate_left
                ·as_aux_lemma=>
                 show Act.put _ (some 147) _=_;simp only [Act.put,List.setIfInBounds_toArray,List.set_cons_zero,List.set_cons_succ,i64_w,i32_w];rfl
                iterate 2 (refine pu_ HT_ ?_)
                refine dg_ HT_ ?_;try go_wp2
                go_meet
                case rel=>exact ⟨_,(!cI),rr_,H',⟨by have:=HJ1.out;have:=HK2.out;have:=HK3.out;first|omega|exact Nat.le_refl _⟩,⟨bk_ aA⟩,⟨bk_ aH⟩,⟨hs_⟩⟩
               ·as_aux_lemma=>
                rw [if_neg bZ] at H;obtain⟨cA,eC⟩:=ne2_ bZ
                (first|rw [cA]|rw [eC]|rw [iY]|(simp only [i64_w,i32_w];rw [cA])|skip)
                (try simp only [Bool.not_true,Bool.not_false])
                have H':=ak_ H;clear H;try go_wp2
                have n0_:Aside0 (((aX.setCell ⟨aI,0,none⟩ (.string ((rd_T39 aB aG).f0))).setCell ⟨aI,1,none⟩ (.string ((rd_T39 aB aG).f1))).heap[aP]?=some (.cells #[.string aE,.string aD,.string aC,.slice aW aF.length aQ,.slice (some aU) aB.length aR] 25 (0,0))):=⟨by refine blk_far ?_ bD.out _;refine blk_far ?_ bD.out _;(with_reducible repeat (first|refine blk_drewN ?_ _|refine blk_drew ?_|refine blk_alloc ?_ _));exact aA.out⟩
                have n1_:Aside0 (((aX.setCell ⟨aI,0,none⟩ (.string ((rd_T39 aB aG).f0))).setCell ⟨aI,1,none⟩ (.string ((rd_T39 aB aG).f1))).heap[aI]?=some (.cells #[.string ((rd_T39 aB aG).f0),.string ((rd_T39 aB aG).f1)] 39 (0,0))):=⟨by refine blk_put (cs:=#[.string ((rd_T39 aB aG).f0),.string ⟨#[]⟩]) ?_ 1 _ rfl;refine blk_put (cs:=#[.string ⟨#[]⟩,.string ⟨#[]⟩]) ?_ 0 _ rfl;(with_reducible repeat (first|refine blk_drewN ?_ _|refine blk_drew ?_|refine blk_alloc ?_ _));exact aH.out⟩
                have n2_:Aside0 (Below w.heap.size w ((aX.setCell ⟨aI,0,none⟩ (.string ((rd_T39 aB aG).f0))).setCell ⟨aI,1,none⟩ (.string ((rd_T39 aB aG).f1)))):=⟨hs_⟩
                (try clear aA)
                (try clear aH)
                (try clear HB)
                generalize ((aX.setCell ⟨aI,0,none⟩ (.string ((rd_T39 aB aG).f0))).setCell ⟨aI,1,none⟩ (.string ((rd_T39 aB aG).f1)))=jB at n0_ n1_ n2_ ⊢;have aA:=n0_;have aH:=n1_;have HB:=n2_;clear n0_ n1_ n2_;replace aA:=ak_ (blk_drew aA.out);replace aH:=ak_ (blk_drew aH.out);replace HB:=ak_ (below_drew1 HB.out);refine start_ (n:=18) (S:=fun w'=>w'.cell? ⟨aI,0,none⟩=some (.string ((rd_T39 aB aG).f0))∧w'.cell? ⟨aI,1,none⟩=some (.string ((rd_T39 aB aG).f1))) (ds:=[]) (bmp 18 0) (by kernel_rfl) rfl rfl ⟨(blk_cell aH.out 0).trans rfl,(blk_cell aH.out 1).trans rfl⟩ (fun hHeld=>?_);refine with_tabW i7_Check.tab21 i7_Check.bits21 (fun HT_ HW_=>?_)
                generalize jB.drew=w124 at aA aH HB hHeld ⊢
                iterate 2 (first|refine pu_ HT_ ?_|refine tk_ HT_ HW_ hHeld ?_)
                refine one_ (i:=2) (N:=some 134) (bmp 18 3) rfl rfl (one_of HT_.out (by kernel_rfl)) (by decide) (fun K hK=>?_)
                refine goes_ Tryz.func35 (by kernel_rfl) rfl #[.string ((rd_T39 aB aG).f0),.int .i64 2,.int .i64 2] (by rfl) rfl rfl (by(try simp only [List.map_toArray,List.map_cons,List.map_nil]);first|done|rfl|(simp only [List.length_drop,List.length_take];rfl)) ?_
                with_reducible refine(i7_signs.calls k3 ((rd_T39 aB aG).f0) 2 2 true _ eB.out).mono ?_
                rintro e w' ⟨rfl,⟨nd,rfl⟩⟩;refine⟨_,rfl,?_⟩;refine hK.out _ _ ⟨(blk_cell aH.out 0).trans rfl,(blk_cell aH.out 1).trans rfl⟩ (fun hHeld=>?_);clear hK K;refine norm_ (a':=?_) ?_ ?_
                rotate_left
                ·as_aux_lemma=>
                 show Act.put _ (some 134) _=_;simp only [Act.put,List.setIfInBounds_toArray,List.set_cons_zero,List.set_cons_succ,i64_w,i32_w];rfl
                iterate 3 (refine pu_ HT_ ?_)
                refine pg_ 8 (bm 18 319) HT_ ?_;refine tg_ 6 (bm 18 383) HT_ HW_ hHeld ?_;refine tg_ 9 (bm 18 895) HT_ HW_ hHeld ?_;refine one_ (i:=7) (N:=some 139) (bmp 18 10) rfl rfl (one_of HT_.out (by kernel_rfl)) (by decide) (fun K hK=>?_)
                refine goes_ Tryz.func29 (by kernel_rfl) rfl #[.string ((rd_T39 aB aG).f0)] (by rfl) rfl rfl (by(try simp only [List.map_toArray,List.map_cons,List.map_nil]);first|done|rfl|(simp only [List.length_drop,List.length_take];rfl)) ?_
                with_reducible refine(i7_Small.calls ((rd_T39 aB aG).f0) bM _ fE.out).mono ?_
                rintro e w125 ⟨rfl,hb⟩;refine⟨_,rfl,?_⟩;replace aA:=ak_ (bb_ aA hb);replace aH:=ak_ (bb_ aH hb);replace HB:=ak_ (below_step hs_ hb)
                (try clear hb)
                (try clear hb2)
                (try clear hk)
                (try clear hi)
                refine hK.out _ _ ⟨(blk_cell aH.out 0).trans rfl,(blk_cell aH.out 1).trans rfl⟩ (fun hHeld=>?_);clear hK K;refine norm_ (a':=?_) ?_ ?_
                rotate_left
                ·as_aux_lemma=>
                 show Act.put _ (some 139) _=_;simp only [Act.put,List.setIfInBounds_toArray,List.set_cons_zero,List.set_cons_succ,i64_w,i32_w];rfl
                iterate 8 (first|refine sk_ HT_ ?_|refine pu_ HT_ ?_)
                refine dg_ HT_ ?_;try go_wp2
                go_meet
                case rel=>exact ⟨_,(true),rr_,H',⟨by have:=HJ1.out;have:=HK2.out;have:=HK3.out;first|omega|exact Nat.le_refl _⟩,⟨bk_ aA⟩,⟨bk_ aH⟩,⟨hs_⟩⟩
              ·as_aux_lemma=>
               replace cZ:=Bool.eq_false_iff.mpr cZ;subst cZ;replace H:=if_f_ H;have H':=ak_ H;clear H;try go_wp2
               have n0_:Aside0 (((aX.setCell ⟨aI,0,none⟩ (.string ((rd_T39 aB aG).f0))).setCell ⟨aI,1,none⟩ (.string ((rd_T39 aB aG).f1))).heap[aP]?=some (.cells #[.string aE,.string aD,.string aC,.slice aW aF.length aQ,.slice (some aU) aB.length aR] 25 (0,0))):=⟨by refine blk_far ?_ bD.out _;refine blk_far ?_ bD.out _;(with_reducible repeat (first|refine blk_drewN ?_ _|refine blk_drew ?_|refine blk_alloc ?_ _));exact aA.out⟩
               have n1_:Aside0 (((aX.setCell ⟨aI,0,none⟩ (.string ((rd_T39 aB aG).f0))).setCell ⟨aI,1,none⟩ (.string ((rd_T39 aB aG).f1))).heap[aI]?=some (.cells #[.string ((rd_T39 aB aG).f0),.string ((rd_T39 aB aG).f1)] 39 (0,0))):=⟨by refine blk_put (cs:=#[.string ((rd_T39 aB aG).f0),.string ⟨#[]⟩]) ?_ 1 _ rfl;refine blk_put (cs:=#[.string ⟨#[]⟩,.string ⟨#[]⟩]) ?_ 0 _ rfl;(with_reducible repeat (first|refine blk_drewN ?_ _|refine blk_drew ?_|refine blk_alloc ?_ _));exact aH.out⟩
               have n2_:Aside0 (Below w.heap.size w ((aX.setCell ⟨aI,0,none⟩ (.string ((rd_T39 aB aG).f0))).setCell ⟨aI,1,none⟩ (.string ((rd_T39 aB aG).f1)))):=⟨hs_⟩
               (try clear aA)
               (try clear aH)
               (try clear HB)
               generalize ((aX.setCell ⟨aI,0,none⟩ (.string ((rd_T39 aB aG).f0))).setCell ⟨aI,1,none⟩ (.string ((rd_T39 aB aG).f1)))=jC at n0_ n1_ n2_ ⊢;have aA:=n0_;have aH:=n1_;have HB:=n2_;clear n0_ n1_ n2_;replace aA:=ak_ (blk_drew aA.out);replace aH:=ak_ (blk_drew aH.out);replace HB:=ak_ (below_drew1 HB.out);refine start_ (n:=18) (S:=fun w'=>w'.cell? ⟨aI,0,none⟩=some (.string ((rd_T39 aB aG).f0))∧w'.cell? ⟨aI,1,none⟩=some (.string ((rd_T39 aB aG).f1))) (ds:=[]) (bmp 18 0) (by kernel_rfl) rfl rfl ⟨(blk_cell aH.out 0).trans rfl,(blk_cell aH.out 1).trans rfl⟩ (fun hHeld=>?_);refine with_tabW i7_Check.tab21 i7_Check.bits21 (fun HT_ HW_=>?_)
               generalize jC.drew=w127 at aA aH HB hHeld ⊢
               iterate 2 (first|refine pu_ HT_ ?_|refine tk_ HT_ HW_ hHeld ?_)
               refine one_ (i:=2) (N:=some 134) (bmp 18 3) rfl rfl (one_of HT_.out (by kernel_rfl)) (by decide) (fun K hK=>?_)
               refine goes_ Tryz.func35 (by kernel_rfl) rfl #[.string ((rd_T39 aB aG).f0),.int .i64 2,.int .i64 2] (by rfl) rfl rfl (by(try simp only [List.map_toArray,List.map_cons,List.map_nil]);first|done|rfl|(simp only [List.length_drop,List.length_take];rfl)) ?_
               with_reducible refine(i7_signs.calls k3 ((rd_T39 aB aG).f0) 2 2 false _ eB.out).mono ?_
               rintro e w' ⟨rfl,⟨nd,rfl⟩⟩;refine⟨_,rfl,?_⟩;refine hK.out _ _ ⟨(blk_cell aH.out 0).trans rfl,(blk_cell aH.out 1).trans rfl⟩ (fun hHeld=>?_);clear hK K;refine norm_ (a':=?_) ?_ ?_
               rotate_left
               ·as_aux_lemma=>
                show Act.put _ (some 134) _=_;simp only [Act.put,List.setIfInBounds_toArray,List.set_cons_zero,List.set_cons_succ,i64_w,i32_w];rfl
               iterate 15 (first|refine sk_ HT_ ?_|refine pu_ HT_ ?_)
               refine dg_ HT_ ?_;try go_wp2
               go_meet
               case rel=>exact ⟨_,(true),rr_,H',⟨by have:=HJ1.out;have:=HK2.out;have:=HK3.out;first|omega|exact Nat.le_refl _⟩,⟨bk_ aA⟩,⟨bk_ aH⟩,⟨hs_⟩⟩
             case rest =>
              clear eA;clear iH iI iJ iK iL iT iU iM iN iO iP iQ iV iW cW cX cU cV;obtain⟨kq,cY,rfl,HA,HJ108,aA,aH,HB⟩:=hcut;cases kq with
              |zero=>exact absurd HA.out (by simp [i7_Check.j6])
              | succ kj108=>
               have H:=HA.out;clear HA;simp only [i7_Check.j6] at H;by_cases dA:cY=true
               ·as_aux_lemma=>
                subst dA;replace H:=it_ H;obtain rfl:=Option.some.inj H
                go_wp2
                go_ret
                exact⟨re_,hs_⟩
               ·as_aux_lemma=>
                replace dA:=Bool.eq_false_iff.mpr dA;subst dA;replace H:=if_f_ H;have eD:=ak_ H;clear H
                go_upto_region 23 with (fail)
                go_cut [163] (fun jD wc=>∃ (kq:Nat) (dB:Bool),jD=.bool dB∧Aside0 (i7_Check.j7 kq aG dB aE aD aC aF aB ((rd_T39 aB aG).f0) ((rd_T39 aB aG).f1)=some r)∧Aside0 (kq≤kj108)∧Aside0 (wc.heap[aP]?=some (.cells #[.string aE,.string aD,.string aC,(.slice aW aF.length aQ),(.slice (some aU) aB.length aR)] 25 (0,0)))∧Aside0 (wc.heap[aI]?=some (.cells #[.string ((rd_T39 aB aG).f0),.string ((rd_T39 aB aG).f1)] 39 (0,0)))∧Aside0 (Below w.heap.size w wc))
                case first=>
                 have H:=eD.out;clear eD;by_cases bK:aG>0
                 ·as_aux_lemma=>
                  rw [if_pos bK] at H;have cB:decide (0<aG)=true:=decide_eq_true bK;clear bK
                  (first|rw [cB]|rw [jE]|rw [jF]|(simp only [i64_w,i32_w];rw [cB])|skip)
                  (try simp only [Bool.not_true,Bool.not_false])
                  obtain⟨aS,hji131⟩:∃ j_:Int,(wrap64 (aG - 1))=j_:=⟨_,rfl⟩;replace H:(if 0≤(aS) then(if (aS)<(aB.length:Int) then(i7_Check.j7 kj108 aG (((rd_T39 aB (aS)).f0).toList==((rd_T39 aB aG).f0).toList) aE aD aC aF aB ((rd_T39 aB aG).f0) ((rd_T39 aB aG).f1)) else(none)) else(none))=some r:=by first|(rw [hji131] at H;exact H)|(simp only [hji131] at H ⊢;exact H)
                  have hji131w:(IntKind.i64.wrap (aG - 1))=aS:=(i64_w _).trans hji131;by_cases dC:0≤(aS)
                  ·as_aux_lemma=>
                   rw [if_pos dC] at H;have lG:decide (0≤(aS))=true:=decide_eq_true dC;clear dC;by_cases dD:(aS)<(aB.length:Int)
                   ·as_aux_lemma=>
                    rw [if_pos dD] at H;have lH:decide ((aS)<(aB.length:Int))=true:=decide_eq_true dD;clear dD;have H':=ak_ H;clear H;try go_wp2
                    replace aA:=ak_ (blk_drew aA.out);replace aH:=ak_ (blk_drew aH.out);replace HB:=ak_ (below_drew1 HB.out);have eE:0≤((aS):Int):=od_;have eF:(aS)<(aB.length:Int):=od_;obtain⟨jG,jH,cC,cD⟩:=at_T39 dN.out (aS) eE eF;have fG:=cD;have fH:=cC;obtain rfl:aU=jG:=(by injection jH)
                    replace cC:=hx_ HB.out cC;replace cD:=hx_ HB.out cD;replace eE:=eq_true eE;replace eF:=eq_true eF;refine start_ (n:=14) (S:=fun w'=>w'.cell? ⟨aP,0,none⟩=some (.string aE)∧w'.cell? ⟨aP,1,none⟩=some (.string aD)∧w'.cell? ⟨aP,2,none⟩=some (.string aC)∧w'.cell? ⟨aP,3,none⟩=some (.slice aW aF.length aQ)∧w'.cell? ⟨aP,4,none⟩=some (.slice (some aU) aB.length aR)∧w'.cell? ⟨aI,0,none⟩=some (.string ((rd_T39 aB aG).f0))∧w'.cell? ⟨aI,1,none⟩=some (.string ((rd_T39 aB aG).f1))∧w'.cell? (aU.add (((aS)).toNat*2))=some (.string ((rd_T39 aB (aS)).f0))∧w'.cell? ⟨(aU.add (((aS)).toNat*2)).block,(aU.add (((aS)).toNat*2)).off+1,none⟩=some (.string ((rd_T39 aB (aS)).f1))) (ds:=[]) (bmp 14 0) (by kernel_rfl) rfl rfl ⟨(blk_cell aA.out 0).trans rfl,(blk_cell aA.out 1).trans rfl,(blk_cell aA.out 2).trans rfl,(blk_cell aA.out 3).trans rfl,(blk_cell aA.out 4).trans rfl,(blk_cell aH.out 0).trans rfl,(blk_cell aH.out 1).trans rfl,(hx_ HB.out fH :),(hx_ HB.out fG :)⟩ (fun hHeld=>?_);refine with_tabW i7_Check.tab23 i7_Check.bits23 (fun HT_ HW_=>?_)
                    generalize wc.drew=w134 at aA aH HB cC cD hHeld ⊢
                    iterate 4 (refine pu_ HT_ ?_)
                    refine pg_ 5 (bm 14 47) HT_ ?_;refine pg_ 6 (bm 14 111) HT_ ?_;refine pg_ 10 (bm 14 1135) HT_ ?_;refine tg_ 4 (bm 14 1151) HT_ HW_ hHeld ?_;refine pg_ 7 (bm 14 1279) HT_ ?_;refine pg_ 8 (bm 14 1535) HT_ ?_;refine tg_ 9 (bmp 14 11) HT_ HW_ hHeld ?_
                    iterate 3 (first|refine pu_ HT_ ?_|refine tk_ HT_ HW_ hHeld ?_)
                    refine dg_ HT_ ?_;try go_wp2
                    go_meet
                    case rel=>exact ⟨_,((((rd_T39 aB (aS)).f0).toList==((rd_T39 aB aG).f0).toList)),(by first|rfl|(simp;done)|(simp only [← hji131] <;> (first|rfl|simp))|(simp [*];done)),H',⟨by have:=HJ1.out;have:=HK2.out;have:=HK3.out;have:=HJ108.out;first|omega|exact Nat.le_refl _⟩,⟨bk_ aA⟩,⟨bk_ aH⟩,⟨hs_⟩⟩
                   ·as_aux_lemma=>
                    rw [if_neg dD] at H;exact absurd H (by simp)
                  ·as_aux_lemma=>
                   rw [if_neg dC] at H;exact absurd H (by simp)
                 ·as_aux_lemma=>
                  rw [if_neg bK] at H;have cB:decide (0<aG)=false:=decide_eq_false bK;clear bK
                  (first|rw [cB]|rw [jE]|rw [jF]|(simp only [i64_w,i32_w];rw [cB])|skip)
                  (try simp only [Bool.not_true,Bool.not_false])
                  have H':=ak_ H;clear H;try go_wp2
                  replace aA:=ak_ (blk_drew aA.out);replace aH:=ak_ (blk_drew aH.out);replace HB:=ak_ (below_drew1 HB.out);refine start_ (n:=14) (S:=fun w'=>True) (ds:=[]) (bmp 14 0) (by kernel_rfl) rfl rfl trivial (fun hHeld=>?_);refine with_tabW i7_Check.tab23 i7_Check.bits23 (fun HT_ HW_=>?_)
                  generalize wc.drew=w135 at aA aH HB hHeld ⊢
                  iterate 14 (first|refine sk_ HT_ ?_|refine pu_ HT_ ?_)
                  refine dg_ HT_ ?_;try go_wp2
                  go_meet
                  case rel=>exact ⟨_,(false),rr_,H',⟨by have:=HJ1.out;have:=HK2.out;have:=HK3.out;have:=HJ108.out;first|omega|exact Nat.le_refl _⟩,⟨bk_ aA⟩,⟨bk_ aH⟩,⟨hs_⟩⟩
                case rest=>
                 clear eD;obtain⟨kq,dB,rfl,HA,HJ128,aA,aH,HB⟩:=hcut;cases kq with
                 |zero=>exact absurd HA.out (by simp [i7_Check.j7])
                 | succ kj128=>
                  have H:=HA.out;clear HA;simp only [i7_Check.j7] at H;by_cases dE:dB=true
                  ·as_aux_lemma=>
                   subst dE;replace H:=it_ H;obtain rfl:=Option.some.inj H
                   go_wp2
                   go_ret
                   exact⟨re_,hs_⟩
                  ·as_aux_lemma=>
                   replace dE:=Bool.eq_false_iff.mpr dE;subst dE;replace H:=if_f_ H;have eG:=ak_ H;clear H
                   go_upto_region 25 with (fail)
                   go_cut [177] (fun jI wc=>∃ (kq:Nat) (dF:Bool),jI=.bool dF∧Aside0 (i7_Check.j8 kq aG dF aE aD aC aF aB=some r)∧Aside0 (kq≤kj128)∧Aside0 (wc.heap[aP]?=some (.cells #[.string aE,.string aD,.string aC,(.slice aW aF.length aQ),(.slice (some aU) aB.length aR)] 25 (0,0)))∧Aside0 (wc.heap[aI]?=some (.cells #[.string ((rd_T39 aB aG).f0),.string ((rd_T39 aB aG).f1)] 39 (0,0)))∧Aside0 (Below w.heap.size w wc))
                   case first=>
                    have H:=eG.out;clear eG;by_cases bL:aG>0
                    ·as_aux_lemma=>
                     rw [if_pos bL] at H;have cE:decide (0<aG)=true:=decide_eq_true bL;clear bL
                     (first|rw [cE]|rw [jJ]|rw [jK]|(simp only [i64_w,i32_w];rw [cE])|skip)
                     (try simp only [Bool.not_true,Bool.not_false])
                     obtain⟨aT,hji139⟩:∃ j_:Int,(wrap64 (aG - 1))=j_:=⟨_,rfl⟩;replace H:(if 0≤(aT) then(if (aT)<(aB.length:Int) then(i7_Check.j8 kj128 aG (Op.bytesLess ((rd_T39 aB aG).f0).toList (((rd_T39 aB (aT)).f0).toList)) aE aD aC aF aB) else(none)) else(none))=some r:=by first|(rw [hji139] at H;exact H)|(simp only [hji139] at H ⊢;exact H)
                     have hji139w:(IntKind.i64.wrap (aG - 1))=aT:=(i64_w _).trans hji139;by_cases dG:0≤(aT)
                     ·as_aux_lemma=>
                      rw [if_pos dG] at H;have lI:decide (0≤(aT))=true:=decide_eq_true dG;clear dG;by_cases dH:(aT)<(aB.length:Int)
                      ·as_aux_lemma=>
                       rw [if_pos dH] at H;have lJ:decide ((aT)<(aB.length:Int))=true:=decide_eq_true dH;clear dH;have H':=ak_ H;clear H;try go_wp2
                       replace aA:=ak_ (blk_drew aA.out);replace aH:=ak_ (blk_drew aH.out);replace HB:=ak_ (below_drew1 HB.out);have eH:0≤((aT):Int):=od_;have eI:(aT)<(aB.length:Int):=od_;obtain⟨jL,jM,cF,cG⟩:=at_T39 dN.out (aT) eH eI;have fI:=cG;have fJ:=cF;obtain rfl:aU=jL:=(by injection jM)
                       replace cF:=hx_ HB.out cF;replace cG:=hx_ HB.out cG;replace eH:=eq_true eH;replace eI:=eq_true eI;refine start_ (n:=14) (S:=fun w'=>w'.cell? ⟨aP,0,none⟩=some (.string aE)∧w'.cell? ⟨aP,1,none⟩=some (.string aD)∧w'.cell? ⟨aP,2,none⟩=some (.string aC)∧w'.cell? ⟨aP,3,none⟩=some (.slice aW aF.length aQ)∧w'.cell? ⟨aP,4,none⟩=some (.slice (some aU) aB.length aR)∧w'.cell? ⟨aI,0,none⟩=some (.string ((rd_T39 aB aG).f0))∧w'.cell? ⟨aI,1,none⟩=some (.string ((rd_T39 aB aG).f1))∧w'.cell? (aU.add (((aT)).toNat*2))=some (.string ((rd_T39 aB (aT)).f0))∧w'.cell? ⟨(aU.add (((aT)).toNat*2)).block,(aU.add (((aT)).toNat*2)).off+1,none⟩=some (.string ((rd_T39 aB (aT)).f1))) (ds:=[]) (bmp 14 0) (by kernel_rfl) rfl rfl ⟨(blk_cell aA.out 0).trans rfl,(blk_cell aA.out 1).trans rfl,(blk_cell aA.out 2).trans rfl,(blk_cell aA.out 3).trans rfl,(blk_cell aA.out 4).trans rfl,(blk_cell aH.out 0).trans rfl,(blk_cell aH.out 1).trans rfl,(hx_ HB.out fJ :),(hx_ HB.out fI :)⟩ (fun hHeld=>?_);refine with_tabW i7_Check.tab25 i7_Check.bits25 (fun HT_ HW_=>?_)
                       generalize wc.drew=w142 at aA aH HB cF cG hHeld ⊢
                       iterate 4 (refine pu_ HT_ ?_)
                       refine pg_ 5 (bm 14 47) HT_ ?_;refine pg_ 6 (bm 14 111) HT_ ?_;refine pg_ 10 (bm 14 1135) HT_ ?_;refine tg_ 4 (bm 14 1151) HT_ HW_ hHeld ?_;refine pg_ 7 (bm 14 1279) HT_ ?_;refine pg_ 8 (bm 14 1535) HT_ ?_;refine tg_ 9 (bmp 14 11) HT_ HW_ hHeld ?_
                       iterate 3 (first|refine pu_ HT_ ?_|refine tk_ HT_ HW_ hHeld ?_)
                       refine dg_ HT_ ?_;try go_wp2
                       go_meet
                       case rel=>exact ⟨_,((Op.bytesLess ((rd_T39 aB aG).f0).toList (((rd_T39 aB (aT)).f0).toList))),(by first|rfl|(simp;done)|(simp only [← hji139] <;> (first|rfl|simp))|(simp [*];done)),H',⟨by have:=HJ1.out;have:=HK2.out;have:=HK3.out;have:=HJ108.out;have:=HJ128.out;first|omega|exact Nat.le_refl _⟩,⟨bk_ aA⟩,⟨bk_ aH⟩,⟨hs_⟩⟩
                      ·as_aux_lemma=>
                       rw [if_neg dH] at H;exact absurd H (by simp)
                     ·as_aux_lemma=>
                      rw [if_neg dG] at H;exact absurd H (by simp)
                    ·as_aux_lemma=>
                     rw [if_neg bL] at H;have cE:decide (0<aG)=false:=decide_eq_false bL;clear bL
                     (first|rw [cE]|rw [jJ]|rw [jK]|(simp only [i64_w,i32_w];rw [cE])|skip)
                     (try simp only [Bool.not_true,Bool.not_false])
                     have H':=ak_ H;clear H;try go_wp2
                     replace aA:=ak_ (blk_drew aA.out);replace aH:=ak_ (blk_drew aH.out);replace HB:=ak_ (below_drew1 HB.out);refine start_ (n:=14) (S:=fun w'=>True) (ds:=[]) (bmp 14 0) (by kernel_rfl) rfl rfl trivial (fun hHeld=>?_);refine with_tabW i7_Check.tab25 i7_Check.bits25 (fun HT_ HW_=>?_)
                     generalize wc.drew=w143 at aA aH HB hHeld ⊢
                     iterate 14 (first|refine sk_ HT_ ?_|refine pu_ HT_ ?_)
                     refine dg_ HT_ ?_;try go_wp2
                     go_meet
                     case rel=>exact ⟨_,(false),rr_,H',⟨by have:=HJ1.out;have:=HK2.out;have:=HK3.out;have:=HJ108.out;have:=HJ128.out;first|omega|exact Nat.le_refl _⟩,⟨bk_ aA⟩,⟨bk_ aH⟩,⟨hs_⟩⟩
                   case rest=>
                    clear eG;obtain⟨kq,dF,rfl,HA,HJ136,aA,aH,HB⟩:=hcut;cases kq with
                    |zero=>exact absurd HA.out (by simp [i7_Check.j8])
                    | succ kj136=>
                     have H:=HA.out;clear HA;simp only [i7_Check.j8] at H;by_cases dI:dF=true
                     ·as_aux_lemma=>
                      subst dI;replace H:=it_ H;obtain rfl:=Option.some.inj H
                      go_wp2
                      go_ret
                      exact⟨re_,hs_⟩
                     ·as_aux_lemma=>
                      replace dI:=Bool.eq_false_iff.mpr dI;subst dI;replace H:=if_f_ H;have H':=ak_ H;clear H
                      go_wp2
                      go_roundg kj136
                      case measure=>have:=HJ1.out;have:=HK2.out;have:=HK3.out;have:=HJ108.out;have:=HJ128.out;have:=HJ136.out;omega
                      case rel=>exact ⟨(wrap64 (aG+1)),rr_,H',⟨by have:=HJ1.out;have:=HK2.out;have:=HK3.out;have:=HJ108.out;have:=HJ128.out;have:=HJ136.out;omega⟩,⟨bk_ aA⟩,⟨hs_⟩⟩
            ·as_aux_lemma=>
             rw [if_neg cT] at H;exact absurd H (by simp)
           ·as_aux_lemma=>
            rw [if_neg bJ] at H;have iG:decide (aG<(aB.length:Int))=false:=decide_eq_false bJ;clear bJ;obtain rfl:=Option.some.inj H;obtain⟨lK,lL,lM,lN,lO,lP,lQ,lR,lS,lT⟩:=c5_ aA
            go_wp2
            go_ret
            exact⟨re_,hs_⟩
end Go.Proofs.YtphjhbppjakocaaGreatDoor.PTag
