/- Several texts of this claim in one: PU22, QSame; conditions: those that each theorem states. -/
import Derived.Test.YtphjhbppjakocaaGreatDoorWInv
import Derived.Test.YtphjhbppjakocaaGreatDoorPl1
import Derived.Test.YtphjhbppjakocaaGreatDoorWN
set_option linter.unusedVariables false
set_option linter.unusedSimpArgs false
namespace Go.Proofs.YtphjhbppjakocaaGreatDoor.PTag
open Go.RowKit Go.Proofs.YtphjhbppjakocaaGreatDoorW.PrintWords Go.Proofs.YtphjhbppjakocaaGreatDoorW.PrintLast Go.Proofs.YtphjhbppjakocaaGreatDoorW.PrintMore
attribute [local go_sem] max2_int min2_int max_two min_two max_three min_three max_four min_four
attribute [local go_sem] setCell_drewN_ cell_put_twice_ gtr_less_
attribute [local go_sem high] eqA39
mutual
def i7_Same.j0:Nat→Bool→ByteArray→ByteArray→ByteArray→List ByteArray→List (S39)→ByteArray→ByteArray→ByteArray→List ByteArray→List (S39)→Option (Bool)
 |0,_,_,_,_,_,_,_,_,_,_,_=>none
 |k+1,x43,bQ,bR,bS,aS,aQ,bT,bU,bV,aT,aR=>if x43=true then(some false) else(i7_Same.l0 k 0 bQ bR bS aS aQ bT bU bV aT aR)
def i7_Same.l0:Nat→Int→ByteArray→ByteArray→ByteArray→List ByteArray→List (S39)→ByteArray→ByteArray→ByteArray→List ByteArray→List (S39)→Option (Bool)
 |0,_,_,_,_,_,_,_,_,_,_,_=>none
 |k+1,x5,bQ,bR,bS,aS,aQ,bT,bU,bV,aT,aR=>if x5<(aS.length:Int) then(if 0≤x5 then(if x5<(aT.length:Int) then(if (rdOf ByteArray.empty aS x5).toList=(rdOf ByteArray.empty aT x5).toList then(i7_Same.l0 k (wrap64 (x5+1)) bQ bR bS aS aQ bT bU bV aT aR) else(some false)) else(none)) else(none)) else(i7_Same.l1 k 0 bQ bR bS aS aQ bT bU bV aT aR)
def i7_Same.l1:Nat→Int→ByteArray→ByteArray→ByteArray→List ByteArray→List (S39)→ByteArray→ByteArray→ByteArray→List ByteArray→List (S39)→Option (Bool)
 |0,_,_,_,_,_,_,_,_,_,_,_=>none
 |k+1,x6,bQ,bR,bS,aS,aQ,bT,bU,bV,aT,aR=>if x6<(aQ.length:Int) then(if 0≤x6 then(if x6<(aR.length:Int) then(if (!((((rd_T39 aQ x6).f0).toList)==(((rd_T39 aR x6).f0).toList))||(!((((rd_T39 aQ x6).f1).toList)==(((rd_T39 aR x6).f1).toList))))=true then(some false) else(i7_Same.l1 k (wrap64 (x6+1)) bQ bR bS aS aQ bT bU bV aT aR)) else(none)) else(none)) else(some true)
end
def i7_Same.f (k:Nat) (aG:ByteArray) (aH:ByteArray) (aI:ByteArray) (aD:List ByteArray) (aA:List (S39)) (aJ:ByteArray) (aK:ByteArray) (aL:ByteArray) (aE:List ByteArray) (aB:List (S39)):Option (Bool):=if aG.toList=aJ.toList then(if aH.toList=aK.toList then(if aI.toList=aL.toList then(if (aD.length:Int)=(aE.length:Int) then(i7_Same.j0 k ((aA.length:Int) != (aB.length:Int)) aG aH aI aD aA aJ aK aL aE aB) else(i7_Same.j0 k true aG aH aI aD aA aJ aK aL aE aB)) else(i7_Same.j0 k true aG aH aI aD aA aJ aK aL aE aB)) else(i7_Same.j0 k true aG aH aI aD aA aJ aK aL aE aB)) else(i7_Same.j0 k true aG aH aI aD aA aJ aK aL aE aB)
set_option maxHeartbeats 8000000 in
set_option maxRecDepth 100000 in
theorem i7_Same.calls (k:Nat) (aG:ByteArray) (aH:ByteArray) (aI:ByteArray) (aU:Option Addr) (aV:Nat) (aD:List ByteArray) (aW:Option Addr) (aX:Nat) (aA:List (S39)) (aJ:ByteArray) (aK:ByteArray) (aL:ByteArray) (aY:Option Addr) (aZ:Nat) (aE:List ByteArray) (bA:Option Addr) (bB:Nat) (aB:List (S39)) (r:Bool) (w:World) (hr0_3:Kd.C Kd.string w aU aD.length aD) (hc0_3:aD.length≤aV) (hr0_4:Kd.C k39 w aW aA.length aA) (hc0_4:aA.length≤aX) (hr1_3:Kd.C Kd.string w aY aE.length aE) (hc1_3:aE.length≤aZ) (hr1_4:Kd.C k39 w bA aB.length aB) (hc1_4:aB.length≤bB) (h:i7_Same.f k aG aH aI aD aA aJ aK aL aE aB=some r):
 Calls Tryz.prog 13 #[.agg #[.string aG,.string aH,.string aI,.slice aU aD.length aV,.slice aW aA.length aX],.agg #[.string aJ,.string aK,.string aL,.slice aY aE.length aZ,.slice bA aB.length bB]] w fun e w'=>e=.returned (.bool r)∧Below w.heap.size w w':=by
 have hu25:=Tryz.underlying25;have hu39:=Tryz.underlying39;have cF:=ak_ hr0_3;have HC0_3:=ak_ hc0_3;clear hr0_3 hc0_3;have cG:=ak_ hr0_4;have HC0_4:=ak_ hc0_4;clear hr0_4 hc0_4;have cH:=ak_ hr1_3;have HC1_3:=ak_ hc1_3;clear hr1_3 hc1_3;have cI:=ak_ hr1_4;have HC1_4:=ak_ hc1_4;clear hr1_4 hc1_4;have HB:=ak_ (Below.refl w.heap.size w);have H:(if aG.toList=aJ.toList then(if aH.toList=aK.toList then(if aI.toList=aL.toList then(if (aD.length:Int)=(aE.length:Int) then(i7_Same.j0 k ((aA.length:Int) != (aB.length:Int)) aG aH aI aD aA aJ aK aL aE aB) else(i7_Same.j0 k true aG aH aI aD aA aJ aK aL aE aB)) else(i7_Same.j0 k true aG aH aI aD aA aJ aK aL aE aB)) else(i7_Same.j0 k true aG aH aI aD aA aJ aK aL aE aB)) else(i7_Same.j0 k true aG aH aI aD aA aJ aK aL aE aB))=some r:=h;clear h;have HC3:=ak_ H;clear H
 go_enter Tryz.func13,Tryz.ntmps13
 go_upto_region 1 with (first|((with_reducible refine gate_dst (N:=2) rfl ?_);(try (refine gate_guard (by rfl) ?_;dsimp only));refine box_event ?hg (N:=2) ?hd (cs:=#[.string aG,.string aH,.string aI,.slice aU aD.length aV,.slice aW aA.length aX]) (t:=25) ?hr ?_;(case hd=>rfl);(case hg=>rfl);(case hr=>first|(go_simp;done)|(go_simp;rfl));intro bW hg w4 hbox hb;have aC:=ak_ (hbox);have cJ:=ak_ (gw_ hg);have cK:=ak_ (gw_ hg);replace HB:=ak_ (below_step hb_ hb);clear hb hbox hg)|((with_reducible refine gate_dst (N:=3) rfl ?_);(try (refine gate_guard (by rfl) ?_;dsimp only));refine box_event ?hg (N:=3) ?hd (cs:=#[.string aJ,.string aK,.string aL,.slice aY aE.length aZ,.slice bA aB.length bB]) (t:=25) ?hr ?_;(case hd=>rfl);(case hg=>rfl);(case hr=>first|(go_simp;done)|(go_simp;rfl));intro bX hg w5 hbox hb;have aN:=ak_ (hbox);have cL:=ak_ (gw_ hg);have cM:=ak_ (gw_ hg);replace HB:=ak_ (below_step hs_ hb);have aO:=ak_ (nl_ aC hg);have aP:=ak_ (ng_ aC hg);replace aC:=ak_ (bb_ aC hb);clear hb hbox hg))
 repeat (go_quiet (first|((with_reducible refine gate_dst (N:=2) rfl ?_);(try (refine gate_guard (by rfl) ?_;dsimp only));refine box_event ?hg (N:=2) ?hd (cs:=#[.string aG,.string aH,.string aI,.slice aU aD.length aV,.slice aW aA.length aX]) (t:=25) ?hr ?_;(case hd=>rfl);(case hg=>rfl);(case hr=>first|(go_simp;done)|(go_simp;rfl));intro bW hg w4 hbox hb;have aC:=ak_ (hbox);have cJ:=ak_ (gw_ hg);have cK:=ak_ (gw_ hg);replace HB:=ak_ (below_step hb_ hb);clear hb hbox hg)|((with_reducible refine gate_dst (N:=3) rfl ?_);(try (refine gate_guard (by rfl) ?_;dsimp only));refine box_event ?hg (N:=3) ?hd (cs:=#[.string aJ,.string aK,.string aL,.slice aY aE.length aZ,.slice bA aB.length bB]) (t:=25) ?hr ?_;(case hd=>rfl);(case hg=>rfl);(case hr=>first|(go_simp;done)|(go_simp;rfl));intro bX hg w5 hbox hb;have aN:=ak_ (hbox);have cL:=ak_ (gw_ hg);have cM:=ak_ (gw_ hg);replace HB:=ak_ (below_step hs_ hb);have aO:=ak_ (nl_ aC hg);have aP:=ak_ (ng_ aC hg);replace aC:=ak_ (bb_ aC hb);clear hb hbox hg));go_upto_region 1 with (first|((with_reducible refine gate_dst (N:=2) rfl ?_);(try (refine gate_guard (by rfl) ?_;dsimp only));refine box_event ?hg (N:=2) ?hd (cs:=#[.string aG,.string aH,.string aI,.slice aU aD.length aV,.slice aW aA.length aX]) (t:=25) ?hr ?_;(case hd=>rfl);(case hg=>rfl);(case hr=>first|(go_simp;done)|(go_simp;rfl));intro bW hg w4 hbox hb;have aC:=ak_ (hbox);have cJ:=ak_ (gw_ hg);have cK:=ak_ (gw_ hg);replace HB:=ak_ (below_step hb_ hb);clear hb hbox hg)|((with_reducible refine gate_dst (N:=3) rfl ?_);(try (refine gate_guard (by rfl) ?_;dsimp only));refine box_event ?hg (N:=3) ?hd (cs:=#[.string aJ,.string aK,.string aL,.slice aY aE.length aZ,.slice bA aB.length bB]) (t:=25) ?hr ?_;(case hd=>rfl);(case hg=>rfl);(case hr=>first|(go_simp;done)|(go_simp;rfl));intro bX hg w5 hbox hb;have aN:=ak_ (hbox);have cL:=ak_ (gw_ hg);have cM:=ak_ (gw_ hg);replace HB:=ak_ (below_step hs_ hb);have aO:=ak_ (nl_ aC hg);have aP:=ak_ (ng_ aC hg);replace aC:=ak_ (bb_ aC hb);clear hb hbox hg)))
 (try simp only [Act.put,List.setIfInBounds_toArray,List.set_cons_zero,List.set_cons_succ])
 go_cut [43] (fun v43 wc=>∃ (kq:Nat) (bZ:Bool),v43=.bool bZ∧Aside0 (i7_Same.j0 kq bZ aG aH aI aD aA aJ aK aL aE aB=some r)∧Aside0 (kq≤k)∧Aside0 (wc.heap[bW]?=some (.cells #[.string aG,.string aH,.string aI,(.slice aU aD.length aV),(.slice aW aA.length aX)] 25 (0,0)))∧Aside0 (wc.heap[bX]?=some (.cells #[.string aJ,.string aK,.string aL,(.slice aY aE.length aZ),(.slice bA aB.length bB)] 25 (0,0)))∧Aside0 (Below w.heap.size w wc))
 case first=>
  have H:=HC3.out;clear HC3;by_cases c6:aG.toList=aJ.toList
  ·rw [if_pos c6] at H
   obtain⟨bY,cA⟩:=eq2_ c6;clear c6
   (first|rw [bY]|rw [cA]|rw [cO]|(simp only [i64_w,i32_w];rw [bY])|skip)
   (try simp only [Bool.not_true,Bool.not_false])
   by_cases c7:aH.toList=aK.toList
   ·rw [if_pos c7] at H
    obtain⟨cP,cQ⟩:=eq2_ c7;clear c7;by_cases c8:aI.toList=aL.toList
    ·rw [if_pos c8] at H
     obtain⟨cR,cS⟩:=eq2_ c8;clear c8;by_cases c9:(aD.length:Int)=(aE.length:Int)
     ·rw [if_pos c9] at H
      obtain⟨cT,cU⟩:=eq2_ c9;have cV:(aD.length==aE.length)=true:=by first|simpa using c9|(simp at c9 ⊢;omega)
      clear c9;have H':=ak_ H;clear H;have hnb10:=aO.out;have hnc10:=aP.out;obtain⟨dO,dP,dQ,dR,dS,dT,dU,dV,dW,dX⟩:=c5_ aC;obtain⟨dY,dZ,eA,eB,eC,eD,eE,eF,eG,eH⟩:=c5_ aN
      go_wp2
      repeat (go_quiet (fail);try go_wp2)
      go_meet
      case rel=>exact ⟨_,(((aA.length:Int) != (aB.length:Int))),rr_,H',⟨by first|omega|exact Nat.le_refl _⟩,⟨bk_ aC⟩,⟨bk_ aN⟩,⟨hs_⟩⟩
     ·rw [if_neg c9] at H
      obtain⟨cT,cU⟩:=ne2_ c9;have cV:(aD.length==aE.length)=false:=by first|simpa using c9|(simp at c9 ⊢;omega)
      have H':=ak_ H;clear H;have hnb13:=aO.out;have hnc13:=aP.out;obtain⟨eI,eJ,eK,eL,eM,eN,eO,eP,eQ,eR⟩:=c5_ aC;obtain⟨eS,eT,eU,eV,eW,eX,eY,eZ,fA,fB⟩:=c5_ aN
      go_wp2
      repeat (go_quiet (fail);try go_wp2)
      go_meet
      case rel=>exact ⟨_,(true),rr_,H',⟨by first|omega|exact Nat.le_refl _⟩,⟨bk_ aC⟩,⟨bk_ aN⟩,⟨hs_⟩⟩
    ·rw [if_neg c8] at H
     obtain⟨cR,cS⟩:=ne2_ c8;have H':=ak_ H;clear H;have hnb16:=aO.out;have hnc16:=aP.out;obtain⟨fC,fD,fE,fF,fG,fH,fI,fJ,fK,fL⟩:=c5_ aC;obtain⟨fM,fN,fO,fP,fQ,fR,fS,fT,fU,fV⟩:=c5_ aN
     go_wp2
     repeat (go_quiet (fail);try go_wp2)
     go_meet
     case rel=>exact ⟨_,(true),rr_,H',⟨by first|omega|exact Nat.le_refl _⟩,⟨bk_ aC⟩,⟨bk_ aN⟩,⟨hs_⟩⟩
   ·rw [if_neg c7] at H
    obtain⟨cP,cQ⟩:=ne2_ c7;have H':=ak_ H;clear H;have hnb19:=aO.out;have hnc19:=aP.out;obtain⟨fW,fX,fY,fZ,gA,gB,gC,gD,gE,gF⟩:=c5_ aC;obtain⟨gG,gH,gI,gJ,gK,gL,gM,gN,gO,gP⟩:=c5_ aN
    go_wp2
    repeat (go_quiet (fail);try go_wp2)
    go_meet
    case rel=>exact ⟨_,(true),rr_,H',⟨by first|omega|exact Nat.le_refl _⟩,⟨bk_ aC⟩,⟨bk_ aN⟩,⟨hs_⟩⟩
  ·rw [if_neg c6] at H
   obtain⟨bY,cA⟩:=ne2_ c6
   (first|rw [bY]|rw [cA]|rw [cO]|(simp only [i64_w,i32_w];rw [bY])|skip)
   (try simp only [Bool.not_true,Bool.not_false])
   have H':=ak_ H;clear H;have hnb22:=aO.out;have hnc22:=aP.out;obtain⟨gQ,gR,gS,gT,gU,gV,gW,gX,gY,gZ⟩:=c5_ aC;obtain⟨hA,hB,hC,hD,hE,hF,hG,hH,hI,hJ⟩:=c5_ aN
   go_wp2
   repeat (go_quiet (fail);try go_wp2)
   go_meet
   case rel=>exact ⟨_,(true),rr_,H',⟨by first|omega|exact Nat.le_refl _⟩,⟨bk_ aC⟩,⟨bk_ aN⟩,⟨hs_⟩⟩
 case rest =>
  clear HC3;obtain⟨kq,bZ,rfl,HA,HJ2,aC,aN,HB⟩:=hcut;cases kq with
  |zero=>exact absurd HA.out (by simp [i7_Same.j0])
  | succ kj2 =>
   have H:=HA.out;clear HA;simp only [i7_Same.j0] at H;by_cases c25:bZ=true
   ·subst c25
    replace H:=it_ H;obtain rfl:=Option.some.inj H
    go_wp2
    repeat (go_quiet (fail);try go_wp2)
    go_ret
    exact⟨re_,hs_⟩
   ·replace c25:=Bool.eq_false_iff.mpr c25
    subst c25;replace H:=if_f_ H;have H':=ak_ H;clear H
    go_wp2
    repeat (go_quiet (fail);try go_wp2)
    go_loopg [5] kj2 (fun kq v5 w'=>∃ (aM:Int),v5=.int .i64 aM∧Aside0 (i7_Same.l0 kq aM aG aH aI aD aA aJ aK aL aE aB=some r)∧Aside0 (kq≤kj2)∧Aside0 (w'.heap[bW]?=some (.cells #[.string aG,.string aH,.string aI,(.slice aU aD.length aV),(.slice aW aA.length aX)] 25 (0,0)))∧Aside0 (w'.heap[bX]?=some (.cells #[.string aJ,.string aK,.string aL,(.slice aY aE.length aZ),(.slice bA aB.length bB)] 25 (0,0)))∧Aside0 (Below w.heap.size w w'))
    case atStart=>exact ⟨(0),rr_,H',⟨Nat.le_refl _⟩,⟨bk_ aC⟩,⟨bk_ aN⟩,⟨hs_⟩⟩
    case round=>
     clear H';obtain⟨aM,rfl,HA,HK2,aC,aN,HB⟩:=hrel;cases gk with
     |zero=>exact absurd HA.out (by simp [i7_Same.l0])
     | succ k2=>
      have H:=HA.out;clear HA;simp only [i7_Same.l0] at H;by_cases c26:aM<(aD.length:Int)
      ·rw [if_pos c26] at H
       have cN:decide (aM<(aD.length:Int))=true:=decide_eq_true c26;clear c26;by_cases c27:0≤aM
       ·rw [if_pos c27] at H
        have c27b0:decide (0≤aM)=true:=decide_eq_true c27;clear c27;by_cases c28:aM<(aE.length:Int)
        ·rw [if_pos c28] at H
         have c28b0:decide (aM<(aE.length:Int))=true:=decide_eq_true c28;clear c28;by_cases c29:(rdOf ByteArray.empty aD aM).toList=(rdOf ByteArray.empty aE aM).toList
         ·rw [if_pos c29] at H
          obtain⟨cW,cX⟩:=eq2_ c29;clear c29;have H':=ak_ H;clear H;have hnb30:=aO.out;have hnc30:=aP.out;obtain⟨hK,hL,hM,hN,hO,hP,hQ,hR,hS,hT⟩:=c5_ aC;have bC:0≤(aM:Int):=od_;have bD:aM<(aD.length:Int):=od_;obtain⟨cY,cB,bE⟩:=Kd.at_string cF.out aM bC bD;cases cB;replace bE:=hx_ HB.out bE;replace bC:=eq_true bC;replace bD:=eq_true bD;obtain⟨hU,hV,hW,hX,hY,hZ,iA,iB,iC,iD⟩:=c5_ aN;have bF:0≤(aM:Int):=od_;have bG:aM<(aE.length:Int):=od_;obtain⟨cZ,cC,bH⟩:=Kd.at_string cH.out aM bF bG;cases cC;replace bH:=hx_ HB.out bH;replace bF:=eq_true bF;replace bG:=eq_true bG
          go_wp2
          repeat (go_quiet (fail);try go_wp2)
          go_roundg k2
          case measure=>have:=HJ2.out;have:=HK2.out;omega
          case rel=>exact ⟨(wrap64 (aM+1)),rr_,H',⟨by have:=HJ2.out;have:=HK2.out;omega⟩,⟨bk_ aC⟩,⟨bk_ aN⟩,⟨hs_⟩⟩
         ·rw [if_neg c29] at H
          obtain⟨cW,cX⟩:=ne2_ c29;obtain rfl:=Option.some.inj H;have hnb33:=aO.out;have hnc33:=aP.out;obtain⟨iE,iF,iG,iH,iI,iJ,iK,iL,iM,iN⟩:=c5_ aC;have bC:0≤(aM:Int):=od_;have bD:aM<(aD.length:Int):=od_;obtain⟨cY,cB,bE⟩:=Kd.at_string cF.out aM bC bD;cases cB;replace bE:=hx_ HB.out bE;replace bC:=eq_true bC;replace bD:=eq_true bD;obtain⟨iO,iP,iQ,iR,iS,iT,iU,iV,iW,iX⟩:=c5_ aN;have bF:0≤(aM:Int):=od_;have bG:aM<(aE.length:Int):=od_;obtain⟨cZ,cC,bH⟩:=Kd.at_string cH.out aM bF bG;cases cC;replace bH:=hx_ HB.out bH;replace bF:=eq_true bF;replace bG:=eq_true bG
          go_wp2
          repeat (go_quiet (fail);try go_wp2)
          go_ret
          exact⟨re_,hs_⟩
        ·rw [if_neg c28] at H
         exact absurd H (by simp)
       ·rw [if_neg c27] at H
        exact absurd H (by simp)
      ·rw [if_neg c26] at H
       have cN:decide (aM<(aD.length:Int))=false:=decide_eq_false c26;clear c26;have H':=ak_ H;clear H;have hnb36:=aO.out;have hnc36:=aP.out;obtain⟨dA,dB,dC,dD,dE,dF,dG,dH,dI,dJ⟩:=c5_ aC
       go_wp2
       repeat (go_quiet (fail);try go_wp2)
       go_loopg [6] k2 (fun kq v6 w'=>∃ (aF:Int),v6=.int .i64 aF∧Aside0 (i7_Same.l1 kq aF aG aH aI aD aA aJ aK aL aE aB=some r)∧Aside0 (kq≤k2)∧Aside0 (w'.heap[bW]?=some (.cells #[.string aG,.string aH,.string aI,(.slice aU aD.length aV),(.slice aW aA.length aX)] 25 (0,0)))∧Aside0 (w'.heap[bX]?=some (.cells #[.string aJ,.string aK,.string aL,(.slice aY aE.length aZ),(.slice bA aB.length bB)] 25 (0,0)))∧Aside0 (Below w.heap.size w w'))
       case atStart=>exact ⟨(0),rr_,H',⟨Nat.le_refl _⟩,⟨bk_ aC⟩,⟨bk_ aN⟩,⟨hs_⟩⟩
       case round=>
        clear H';clear cN dA dB dC dD dE dF dG dH dI dJ;obtain⟨aF,rfl,HA,HK3,aC,aN,HB⟩:=hrel;cases gk with
        |zero=>exact absurd HA.out (by simp [i7_Same.l1])
        | succ k3=>
         have H:=HA.out;clear HA;simp only [i7_Same.l1] at H;by_cases c38:aF<(aA.length:Int)
         ·rw [if_pos c38] at H
          have dK:decide (aF<(aA.length:Int))=true:=decide_eq_true c38;clear c38;by_cases c39:0≤aF
          ·rw [if_pos c39] at H
           have c39b0:decide (0≤aF)=true:=decide_eq_true c39;clear c39;by_cases c40:aF<(aB.length:Int)
           ·rw [if_pos c40] at H
            have c40b0:decide (aF<(aB.length:Int))=true:=decide_eq_true c40;clear c40;by_cases c41:(!((((rd_T39 aA aF).f0).toList)==(((rd_T39 aB aF).f0).toList))||(!((((rd_T39 aA aF).f1).toList)==(((rd_T39 aB aF).f1).toList))))=true
            ·rw [if_pos c41] at H
             have dL:(!((((rd_T39 aA aF).f0).toList)==(((rd_T39 aB aF).f0).toList))||(!((((rd_T39 aA aF).f1).toList)==(((rd_T39 aB aF).f1).toList))))=true:=c41;clear c41;obtain rfl:=Option.some.inj H;have hnb42:=aO.out;have hnc42:=aP.out;obtain⟨iY,iZ,jA,jB,jC,jD,jE,jF,jG,jH⟩:=c5_ aC;have bI:0≤(aF:Int):=od_;have bJ:aF<(aA.length:Int):=od_;obtain⟨dM,cD,bK,bL⟩:=at_T39 cG.out aF bI bJ;cases cD;replace bK:=hx_ HB.out bK;replace bL:=hx_ HB.out bL;replace bI:=eq_true bI;replace bJ:=eq_true bJ;obtain⟨jI,jJ,jK,jL,jM,jN,jO,jP,jQ,jR⟩:=c5_ aN;have bM:0≤(aF:Int):=od_;have bN:aF<(aB.length:Int):=od_;obtain⟨dN,cE,bO,bP⟩:=at_T39 cI.out aF bM bN;cases cE;replace bO:=hx_ HB.out bO;replace bP:=hx_ HB.out bP;replace bM:=eq_true bM;replace bN:=eq_true bN
             go_wp2
             repeat (go_quiet (fail);try go_wp2)
             go_ret
             exact⟨re_,hs_⟩
            ·rw [if_neg c41] at H
             have dL:(!((((rd_T39 aA aF).f0).toList)==(((rd_T39 aB aF).f0).toList))||(!((((rd_T39 aA aF).f1).toList)==(((rd_T39 aB aF).f1).toList))))=false:=by simpa using c41
             clear c41;have H':=ak_ H;clear H;have hnb45:=aO.out;have hnc45:=aP.out;obtain⟨jS,jT,jU,jV,jW,jX,jY,jZ,kA,kB⟩:=c5_ aC;have bI:0≤(aF:Int):=od_;have bJ:aF<(aA.length:Int):=od_;obtain⟨dM,cD,bK,bL⟩:=at_T39 cG.out aF bI bJ;cases cD;replace bK:=hx_ HB.out bK;replace bL:=hx_ HB.out bL;replace bI:=eq_true bI;replace bJ:=eq_true bJ;obtain⟨kC,kD,kE,kF,kG,kH,kI,kJ,kK,kL⟩:=c5_ aN;have bM:0≤(aF:Int):=od_;have bN:aF<(aB.length:Int):=od_;obtain⟨dN,cE,bO,bP⟩:=at_T39 cI.out aF bM bN;cases cE;replace bO:=hx_ HB.out bO;replace bP:=hx_ HB.out bP;replace bM:=eq_true bM;replace bN:=eq_true bN
             go_wp2
             repeat (go_quiet (fail);try go_wp2)
             go_roundg k3
             case measure=>have:=HJ2.out;have:=HK2.out;have:=HK3.out;omega
             case rel=>exact ⟨(wrap64 (aF+1)),rr_,H',⟨by have:=HJ2.out;have:=HK2.out;have:=HK3.out;omega⟩,⟨bk_ aC⟩,⟨bk_ aN⟩,⟨hs_⟩⟩
           ·rw [if_neg c40] at H
            exact absurd H (by simp)
          ·rw [if_neg c39] at H
           exact absurd H (by simp)
         ·rw [if_neg c38] at H
          have dK:decide (aF<(aA.length:Int))=false:=decide_eq_false c38;clear c38;obtain rfl:=Option.some.inj H;have hnb48:=aO.out;have hnc48:=aP.out;obtain⟨kM,kN,kO,kP,kQ,kR,kS,kT,kU,kV⟩:=c5_ aC
          go_wp2
          repeat (go_quiet (fail);try go_wp2)
          go_ret
          exact⟨re_,hs_⟩
end Go.Proofs.YtphjhbppjakocaaGreatDoor.PTag
namespace Go.Proofs.YtphjhbppjakocaaGreatDoor.PTag
open Go.RowKit Go.Proofs.YtphjhbppjakocaaGreatDoorW.PrintWords Go.Proofs.YtphjhbppjakocaaGreatDoorW.PrintLast Go.Proofs.YtphjhbppjakocaaGreatDoorW.PrintMore
attribute [local go_sem] max2_int min2_int max_two min_two max_three min_three max_four min_four
attribute [local go_sem] setCell_drewN_ cell_put_twice_ gtr_less_
def l7_same.l0:Nat→List (S25)→List (S25)→Int→Option (Bool)
 |0,_,_,_=>none
 |k+1,x0,x1,x5=>if x5<(x0.length:Int) then(if 0≤x5 then(if x5<(x1.length:Int) then((i7_Same.f k ((rd_T25 x0 x5).f0) ((rd_T25 x0 x5).f1) ((rd_T25 x0 x5).f2) ((rd_T25 x0 x5).f3) ((rd_T25 x0 x5).f4) ((rd_T25 x1 x5).f0) ((rd_T25 x1 x5).f1) ((rd_T25 x1 x5).f2) ((rd_T25 x1 x5).f3) ((rd_T25 x1 x5).f4)).bind fun aX=>(if aX=true then(l7_same.l0 k x0 x1 (wrap64 (x5+1))) else(some false))) else(none)) else(none)) else(some true)
def l7_same.f (k:Nat) (l0:List (S25)) (l1:List (S25)):Option (Bool):=if (l0.length:Int)=(l1.length:Int) then(l7_same.l0 k l0 l1 0) else(some false)
def l7_same.T6:Bool×List (List Nat×List Nat):=(true,[([],[]),([],[]),([0,1],[0,1]),([2],[2]),([],[]),([],[]),([4,5],[4,5]),([6],[6]),([3,7],[3,7]),([8],[8])])
def l7_same.B6:List Nat:=[0,0,3,7,0,0,48,112,255,511]
theorem l7_same.tab6:rtab .any (opsOf Tryz.f20 6)=l7_same.T6:=by kernel_rfl
theorem l7_same.bits6:waitsOk l7_same.T6.2 l7_same.B6=true:=by kernel_rfl
set_option maxHeartbeats 8000000 in
set_option maxRecDepth 100000 in
theorem l7_same.calls (k:Nat) (A0:Option Addr) (c0:Nat) (l0:List (S25)) (A1:Option Addr) (c1:Nat) (l1:List (S25)) (r:Bool) (w:World) (hr0:Kd.C k25 w A0 l0.length l0) (hc0:l0.length≤c0) (hr1:Kd.C k25 w A1 l1.length l1) (hc1:l1.length≤c1) (h:l7_same.f k l0 l1=some r) (hr:r≠false):
 Calls Tryz.prog 20 #[.slice A0 l0.length c0,.slice A1 l1.length c1] w fun e w'=>e=.returned (.bool r)∧Below w.heap.size w w':=by
 have hu25:=Tryz.underlying25;have HR0:=ak_ hr0;have HC0:=ak_ hc0;clear hr0 hc0;have HR1:=ak_ hr1;have HC1:=ak_ hc1;clear hr1 hc1;have HB:=ak_ (Below.refl w.heap.size w);have H:(if (l0.length:Int)=(l1.length:Int) then(l7_same.l0 k l0 l1 0) else(some false))=some r:=h;clear h;by_cases c3:(l0.length:Int)=(l1.length:Int)
 ·rw [if_pos c3] at H
  obtain⟨bC,bD⟩:=eq2_ c3;have bE:(l0.length==l1.length)=true:=by first|simpa using c3|(simp at c3 ⊢;omega)
  clear c3;have H':=ak_ H;clear H
  go_enter Tryz.func20,Tryz.ntmps20
  go_wp2
  go_loopg [5] k (fun kq v5 w'=>∃ (aA:Int),v5=.int .i64 aA∧Aside0 (l7_same.l0 kq l0 l1 aA=some r)∧Aside0 (kq≤k)∧Aside0 (Below w.heap.size w w'))
  case atStart=>exact ⟨(0),rr_,H',⟨Nat.le_refl _⟩,⟨hs_⟩⟩
  case round=>
   clear H';try clear c1
   try clear c2
   try clear p2
   try clear c3
   try clear bC
   try clear bD
   try clear bE
   obtain⟨aA,rfl,HA,HK1,HB⟩:=hrel;cases gk with
   |zero=>exact absurd HA.out (by simp [l7_same.l0])
   | succ k1=>
    have H:=HA.out;clear HA;simp only [l7_same.l0] at H;by_cases c4:aA<(l0.length:Int)
    ·rw [if_pos c4] at H
     have bZ:decide (aA<(l0.length:Int))=true:=decide_eq_true c4;clear c4;by_cases c5:0≤aA
     ·rw [if_pos c5] at H
      have c5b0:decide (0≤aA)=true:=decide_eq_true c5;clear c5;by_cases c6:aA<(l1.length:Int)
      ·rw [if_pos c6] at H
       have c6b0:decide (aA<(l1.length:Int))=true:=decide_eq_true c6;clear c6;replace H:=Option.bind_eq_some_iff.mp H;obtain⟨aX,A70,H⟩:=H;try dsimp only at H
       have A7:=ak_ A70;clear A70;by_cases c8:aX=true
       ·subst c8
        replace H:=it_ H;have H':=ak_ H;clear H;try go_wp2
        replace HB:=ak_ (below_drew1 HB.out);have aY:0≤(aA:Int):=od_;have aZ:aA<(l0.length:Int):=od_;obtain⟨aB,bF,bG,bH,bI,cA,aD,aE,aF,aG,aH,bJ,bK,bL,bM⟩:=at_T25 HR0.out aA aY aZ;have aN:=aH;have aO:=aG;have aP:=aF;have aQ:=aE;have aR:=aD;cases cA;replace aD:=hx_ HB.out aD;replace aE:=hx_ HB.out aE;replace aF:=hx_ HB.out aF;replace aG:=hx_ HB.out aG;replace aH:=hx_ HB.out aH;have bN:=ak_ bK;have cB:=ak_ bJ;clear bK bJ;have bO:=ak_ bM;have cC:=ak_ bL;clear bM bL;replace aY:=eq_true aY;replace aZ:=eq_true aZ;have bA:0≤(aA:Int):=od_;have bB:aA<(l1.length:Int):=od_;obtain⟨aC,bP,bQ,bR,bS,cD,aI,aJ,aK,aL,aM,bT,bU,bV,bW⟩:=at_T25 HR1.out aA bA bB;have aS:=aM;have aT:=aL;have aU:=aK;have aV:=aJ;have aW:=aI;cases cD;replace aI:=hx_ HB.out aI;replace aJ:=hx_ HB.out aJ;replace aK:=hx_ HB.out aK;replace aL:=hx_ HB.out aL;replace aM:=hx_ HB.out aM;have bX:=ak_ bU;have cE:=ak_ bT;clear bU bT;have bY:=ak_ bW;have cF:=ak_ bV;clear bW bV;replace bA:=eq_true bA;replace bB:=eq_true bB
        refine start_ (n:=10) (S:=fun w'=>w'.cell? (aB.add ((aA).toNat*5))=some (.string ((rd_T25 l0 aA).f0))∧w'.cell? ⟨(aB.add ((aA).toNat*5)).block,(aB.add ((aA).toNat*5)).off+1,none⟩=some (.string ((rd_T25 l0 aA).f1))∧w'.cell? ⟨(aB.add ((aA).toNat*5)).block,(aB.add ((aA).toNat*5)).off+2,none⟩=some (.string ((rd_T25 l0 aA).f2))∧w'.cell? ⟨(aB.add ((aA).toNat*5)).block,(aB.add ((aA).toNat*5)).off+3,none⟩=some (.slice bF ((rd_T25 l0 aA).f3).length bG)∧w'.cell? ⟨(aB.add ((aA).toNat*5)).block,(aB.add ((aA).toNat*5)).off+4,none⟩=some (.slice bH ((rd_T25 l0 aA).f4).length bI)∧w'.cell? (aC.add ((aA).toNat*5))=some (.string ((rd_T25 l1 aA).f0))∧w'.cell? ⟨(aC.add ((aA).toNat*5)).block,(aC.add ((aA).toNat*5)).off+1,none⟩=some (.string ((rd_T25 l1 aA).f1))∧w'.cell? ⟨(aC.add ((aA).toNat*5)).block,(aC.add ((aA).toNat*5)).off+2,none⟩=some (.string ((rd_T25 l1 aA).f2))∧w'.cell? ⟨(aC.add ((aA).toNat*5)).block,(aC.add ((aA).toNat*5)).off+3,none⟩=some (.slice bP ((rd_T25 l1 aA).f3).length bQ)∧w'.cell? ⟨(aC.add ((aA).toNat*5)).block,(aC.add ((aA).toNat*5)).off+4,none⟩=some (.slice bR ((rd_T25 l1 aA).f4).length bS)) (ds:=[]) (bmp 10 0) (by kernel_rfl) rfl rfl ⟨(hx_ HB.out aR :),(hx_ HB.out aQ :),(hx_ HB.out aP :),(hx_ HB.out aO :),(hx_ HB.out aN :),(hx_ HB.out aW :),(hx_ HB.out aV :),(hx_ HB.out aU :),(hx_ HB.out aT :),(hx_ HB.out aS :)⟩ (fun hHeld=>?_);refine with_tabW l7_same.tab6 l7_same.bits6 (fun HT_ HW_=>?_)
        generalize wr.drew=w9 at HB bN bO bX bY aD aE aF aG aH aI aJ aK aL aM hHeld ⊢
        iterate 3 (refine pu_ HT_ ?_)
        refine pg_ 4 (bm 10 23) HT_ ?_;refine pg_ 5 (bm 10 55) HT_ ?_;refine pg_ 6 (bm 10 119) HT_ ?_;refine tg_ 3 (bmp 10 7) HT_ HW_ hHeld ?_;refine tk_ HT_ HW_ hHeld ?_;refine one_ (i:=8) (N:=some 25) (bmp 10 9) rfl rfl (one_of HT_.out (by kernel_rfl)) (by decide) (fun K hK=>?_)
        refine goes_ Tryz.func13 (by kernel_rfl) rfl #[.agg #[.string ((rd_T25 l0 aA).f0),.string ((rd_T25 l0 aA).f1),.string ((rd_T25 l0 aA).f2),.slice bF ((rd_T25 l0 aA).f3).length bG,.slice bH ((rd_T25 l0 aA).f4).length bI],.agg #[.string ((rd_T25 l1 aA).f0),.string ((rd_T25 l1 aA).f1),.string ((rd_T25 l1 aA).f2),.slice bP ((rd_T25 l1 aA).f3).length bQ,.slice bR ((rd_T25 l1 aA).f4).length bS]] (by rfl) rfl rfl (by(try simp only [List.map_toArray,List.map_cons,List.map_nil]);first|done|rfl|(simp only [List.length_drop,List.length_take];rfl)) ?_
        with_reducible refine(i7_Same.calls k1 ((rd_T25 l0 aA).f0) ((rd_T25 l0 aA).f1) ((rd_T25 l0 aA).f2) _ _ ((rd_T25 l0 aA).f3) _ _ ((rd_T25 l0 aA).f4) ((rd_T25 l1 aA).f0) ((rd_T25 l1 aA).f1) ((rd_T25 l1 aA).f2) _ _ ((rd_T25 l1 aA).f3) _ _ ((rd_T25 l1 aA).f4) true _ ?side1 ?side2 ?side3 ?side4 ?side5 ?side6 ?side7 ?side8 A7.out).mono ?_
        (case side1=>exact cb_ bN)
        (case side2=>exact cB.out)
        (case side3=>exact cb_ bO)
        (case side4=>exact cC.out)
        (case side5=>exact cb_ bX)
        (case side6=>exact cE.out)
        (case side7=>exact cb_ bY)
        (case side8=>exact cF.out)
        rintro e w10 ⟨rfl,hb⟩;refine⟨_,rfl,?_⟩;replace HB:=ak_ (below_step hb_ hb)
        (try clear hb)
        (try clear hb2)
        (try clear hk)
        (try clear hi)
        refine hK.out _ _ ⟨(hx_ HB.out aR :),(hx_ HB.out aQ :),(hx_ HB.out aP :),(hx_ HB.out aO :),(hx_ HB.out aN :),(hx_ HB.out aW :),(hx_ HB.out aV :),(hx_ HB.out aU :),(hx_ HB.out aT :),(hx_ HB.out aS :)⟩ (fun hHeld=>?_);clear hK K;refine norm_ (a':=?_) ?_ ?_
        rotate_left
        ·show Act.put _ (some 25) _=_
         simp only [Act.put,List.setIfInBounds_toArray,List.set_cons_zero,List.set_cons_succ,i64_w,i32_w];rfl
        refine pu_ HT_ ?_;refine dg_ HT_ ?_;try go_wp2
        go_roundg k1
        case measure=>have:=HK1.out;omega
        case rel=>exact ⟨(wrap64 (aA+1)),rr_,H',⟨by have:=HK1.out;omega⟩,⟨hs_⟩⟩
       ·replace c8:=Bool.eq_false_iff.mpr c8
        subst c8;replace H:=if_f_ H;obtain rfl:=Option.some.inj H;exact absurd rfl hr
      ·rw [if_neg c6] at H
       exact absurd H (by simp)
     ·rw [if_neg c5] at H
      exact absurd H (by simp)
    ·rw [if_neg c4] at H
     have bZ:decide (aA<(l0.length:Int))=false:=decide_eq_false c4;clear c4;obtain rfl:=Option.some.inj H
     go_wp2
     go_ret
     exact⟨re_,hs_⟩
 ·rw [if_neg c3] at H
  obtain⟨bC,bD⟩:=ne2_ c3;have bE:(l0.length==l1.length)=false:=by first|simpa using c3|(simp at c3 ⊢;omega)
  obtain rfl:=Option.some.inj H;exact absurd rfl hr
end Go.Proofs.YtphjhbppjakocaaGreatDoor.PTag
