/- Several texts of this claim in one: RPut, PU19, PU5, PU6, QRoot; conditions: those that each theorem states. -/
import Derived.Test.YtphjhbppjakocaaGreatDoorWInv
import Derived.Test.YtphjhbppjakocaaGreatDoorPl1
import Derived.Test.YtphjhbppjakocaaGreatDoorWN
import Derived.Test.YtphjhbppjakocaaGreatDoorQCopied
set_option linter.unusedVariables false
set_option linter.unusedSimpArgs false
namespace Go.Proofs.YtphjhbppjakocaaGreatDoor.PTag
open Go.RowKit Go.Proofs.YtphjhbppjakocaaGreatDoorW.PrintWords Go.Proofs.YtphjhbppjakocaaGreatDoorW.PrintLast Go.Proofs.YtphjhbppjakocaaGreatDoorW.PrintMore
attribute [local go_sem] max2_int min2_int max_two min_two max_three min_three max_four min_four
attribute [local go_sem] setCell_drewN_ cell_put_twice_ gtr_less_
mutual
def i7_put.l0:Nat→List ByteArray→ByteArray→List ByteArray→Bool→Int→Option (List ByteArray×Bool)
 |0,_,_,_,_,_=>none
 |k+1,x0,x1,x6,x7,x8=>if x8<(x0.length:Int) then(if 0≤x8 then(if (rdOf ByteArray.empty x0 x8).toList=x1.toList then(some (x0,false)) else(if x7=true then(i7_put.j1 k x0 x1 x6 x7 x8 false) else(i7_put.j1 k x0 x1 x6 x7 x8 (Op.bytesLess x1.toList ((rdOf ByteArray.empty x0 x8).toList))))) else(none)) else(if x7=true then(some (x6,true)) else(if x6.length<8796093022208 then(some ((x6++[x1]),true)) else(none)))
def i7_put.j1:Nat→List ByteArray→ByteArray→List ByteArray→Bool→Int→Bool→Option (List ByteArray×Bool)
 |0,_,_,_,_,_,_=>none
 |k+1,x0,x1,x6,x7,x8,x32=>if x32=true then(if x6.length<8796093022208 then((some (x6++[x1]:List ByteArray)).bind fun aD=>(if 0≤x8 then(if x8<(x0.length:Int) then(if aD.length<8796093022208 then(i7_put.l0 k x0 x1 (aD++[rdOf ByteArray.empty x0 x8]) true (wrap64 (x8+1))) else(none)) else(none)) else(none))) else(none)) else(if 0≤x8 then(if x8<(x0.length:Int) then(if x6.length<8796093022208 then(i7_put.l0 k x0 x1 (x6++[rdOf ByteArray.empty x0 x8]) x7 (wrap64 (x8+1))) else(none)) else(none)) else(none))
end
def i7_put.f (k:Nat) (l0:List ByteArray) (a1:ByteArray):Option (List ByteArray×Bool):=i7_put.l0 k l0 a1 (([]:List ByteArray)) false 0
set_option maxHeartbeats 8000000 in
set_option maxRecDepth 100000 in
theorem i7_put.calls (k:Nat) (P0_:Nat→Prop) (A0:Option Addr) (c0:Nat) (l0:List ByteArray) (a1:ByteArray) (r1:List ByteArray) (r2:Bool) (w:World) (hs0:Kd.V Kd.string 9 w w.heap.size (fun k_=>P0_ k_) (.slice A0 l0.length c0) l0) (h:i7_put.f k l0 a1=some (r1,r2)):
 Calls Tryz.prog 81 #[.slice A0 l0.length c0,.string a1] w fun e w'=>∃ v0_:Value,e=.returned (.tuple #[v0_,.bool r2])∧Kd.V Kd.string 9 w' w.heap.size (fun k_=>(P0_ k_∨w.heap.size≤k_)) v0_ r1∧Below w.heap.size w w':=by
 have HO0:=ak_ (show Kd.V Kd.string 9 w w.heap.size (fun k_=>(P0_ k_∨w.heap.size≤k_)) (.slice A0 l0.length c0) l0 from Kd.V_mono hs0 (fun k_ hk=>.inl hk))
 have HB:=ak_ (Below.refl w.heap.size w);have H:(i7_put.l0 k l0 a1 (([]:List ByteArray)) false 0)=some (r1,r2):=h;clear h;obtain⟨bA,aI⟩:∃ y_:List ByteArray,y_=(([]:List ByteArray)):=⟨_,rfl⟩;replace H:(i7_put.l0 k l0 a1 bA false 0)=some (r1,r2):=by first|(rw [aI];with_reducible exact H)|(have H2_:=(Option.bind_some _ _).symm.trans H;rw [aI];with_reducible exact H2_)|(have H2_:=(Option.bind_some _ _).symm.trans H;with_reducible exact H2_)|with_reducible exact H|(rw [aI];exact H)|exact H
 have bB:=ak_ aI;clear aI;have H':=ak_ H;clear H
 go_enter Tryz.func81,Tryz.ntmps81
 go_wp2_with (first|((with_reducible refine gate_dst (N:=9) rfl ?_);refine Kd.R_lit Kd.string _ 9 ?hg (N:=9) ?hd (xs:=([]:List ByteArray)) (inner:=[]) (ok:=fun _=>True) (okp:=fun _=>True) ?hr ?hp (fun _ hk=>hk) trivial (Below.refl _ _) (Nat.le_refl _) (by simp) ?_;(case hd=>rfl);(case hg=>rfl);(case hr=>first|(go_simp;done)|(go_simp;rfl));(case hp=>exact (Reps.none _ _));intro v212 w3 ho4 hb hg_ hnew_;clear hg_ hnew_;(first|rw [← bB.out] at ho4|(simp only [Int.reduceToNat] at ho4;rw [← bB.out] at ho4));replace HO0:=ak_ (Kd.V_elder' (va_ HO0) (Kd.R_base ho4) hb);have bJ:=ak_ (Kd.R_lower (Kd.R_newM (M:=fun k_=>(w.heap.size≤k_)) ho4 hz_ (fun k_ h_=>h_)) hz_);replace HB:=ak_ (below_step hb_ hb);clear hb ho4))
 go_loopg [6,7,8] k (fun kq v6 v7 v8 w'=>∃ (aC:List ByteArray) (aE:Bool) (aA:Int),v7=.bool aE∧v8=.int .i64 aA∧Aside0 (i7_put.l0 kq l0 a1 aC aE aA=some (r1,r2))∧Aside0 (kq≤k)∧Aside0 (Kd.V Kd.string 9 w' w.heap.size (fun k_=>(P0_ k_∨w.heap.size≤k_)∧some k_≠(v6:Value).ownBlock) (.slice A0 l0.length c0) l0)∧Aside0 (Kd.R Kd.string 9 w' w.heap.size (fun k_=>(w.heap.size≤k_)) v6 aC)∧Aside0 (Below w.heap.size w w'))
 case atStart=>exact ⟨(bA),(false),(0),rr_,rr_,H',⟨Nat.le_refl _⟩,⟨va_ HO0⟩,⟨Kd.R_mono (ra_ bJ) (fun _ hk=>hk.1)⟩,⟨hs_⟩⟩
 case round =>
  clear H';try clear p2
  obtain⟨aC,aE,aA,rfl,rfl,HA,HK1,HO_0,HO_6,HB⟩:=hrel;cases gk with
  |zero=>exact absurd HA.out (by simp [i7_put.l0])
  | succ k1 =>
   have H:=HA.out;clear HA;simp only [i7_put.l0] at H;by_cases c5:aA<(l0.length:Int)
   ·rw [if_pos c5] at H
    have bC:decide (aA<(l0.length:Int))=true:=decide_eq_true c5;clear c5;by_cases c6:0≤aA
    ·rw [if_pos c6] at H
     have bK:decide (0≤aA)=true:=decide_eq_true c6;clear c6;by_cases c7:(rdOf ByteArray.empty l0 aA).toList=a1.toList
     ·rw [if_pos c7] at H
      obtain⟨bD,bE⟩:=eq2_ c7;clear c7;simp only [Option.some.injEq,Prod.mk.injEq] at H;obtain⟨rfl,rfl⟩:=H;have aG:0≤(aA:Int):=od_;have aH:aA<(l0.length:Int):=od_;obtain⟨aJ,aV,bF⟩:=Kd.at_string (Kd.V_reads' HO_0.out).2.2 aA aG aH;cases aV;replace aG:=eq_true aG;replace aH:=eq_true aH
      go_wp2
      go_ret2
      exact⟨_,re_,Kd.V_mono (va_ HO_0) (fun _ hk=>hk.1),hs_⟩
     ·rw [if_neg c7] at H
      obtain⟨bD,bE⟩:=ne2_ c7;have HC8:=ak_ H;clear H;have aG:0≤(aA:Int):=od_;have aH:aA<(l0.length:Int):=od_;obtain⟨aJ,aV,bF⟩:=Kd.at_string (Kd.V_reads' HO_0.out).2.2 aA aG aH;cases aV;replace aG:=eq_true aG;replace aH:=eq_true aH
      go_upto_region 7 with (fail)
      go_cut [32] (fun v32 wc=>∃ (kq:Nat) (aR:Bool),v32=.bool aR∧Aside0 (i7_put.j1 kq l0 a1 aC aE aA aR=some (r1,r2))∧Aside0 (kq≤k1)∧Aside0 (Kd.V Kd.string 9 wc w.heap.size (fun k_=>(P0_ k_∨w.heap.size≤k_)∧some k_≠(u6:Value).ownBlock) (.slice (some aJ) l0.length c0) l0)∧Aside0 (Kd.R Kd.string 9 wc w.heap.size (fun k_=>(w.heap.size≤k_)) u6 aC)∧Aside0 (Below w.heap.size w wc))
      case first=>
       have H:=HC8.out;clear HC8;by_cases c9:aE=true
       ·subst c9
        replace H:=it_ H;have H':=ak_ H;clear H
        go_wp2
        go_meet
        case rel=>exact ⟨_,(false),rr_,H',⟨by have:=HK1.out;first|omega|exact Nat.le_refl _⟩,⟨va_ HO_0⟩,⟨by(with_reducible repeat (first|apply Kd.R_alloc|apply Kd.R_drewN|apply Kd.R_drew));exact HO_6.out⟩,⟨hs_⟩⟩
       ·replace c9:=Bool.eq_false_iff.mpr c9
        subst c9;replace H:=if_f_ H;have H':=ak_ H;clear H;have aT:0≤(aA:Int):=od_;have aU:aA<(l0.length:Int):=od_;obtain⟨bL,bM,bN⟩:=Kd.at_string (Kd.V_reads' HO_0.out).2.2 aA aT aU;obtain rfl:aJ=bL:=(by injection bM)
        replace aT:=eq_true aT;replace aU:=eq_true aU
        go_wp2
        go_meet
        case rel=>exact ⟨_,((Op.bytesLess a1.toList ((rdOf ByteArray.empty l0 aA).toList))),rr_,H',⟨by have:=HK1.out;first|omega|exact Nat.le_refl _⟩,⟨va_ HO_0⟩,⟨by(with_reducible repeat (first|apply Kd.R_alloc|apply Kd.R_drewN|apply Kd.R_drew));exact HO_6.out⟩,⟨hs_⟩⟩
      case rest=>
       clear HC8;try clear p2
       try clear q2
       try clear hx2
       try clear c5
       try clear bC
       try clear c6
       try clear bK
       try clear c7
       try clear bD
       try clear bE
       try clear c8
       try clear c9
       try clear bF
       try clear bN
       try clear p2
       try clear aG
       try clear aT
       try clear aH
       try clear aU
       obtain⟨kq,aR,rfl,HA,HJ7,HO_0,HO_6,HB⟩:=hcut;cases kq with
       |zero=>exact absurd HA.out (by simp [i7_put.j1])
       | succ kj7=>
        have H:=HA.out;clear HA;simp only [i7_put.j1] at H;by_cases c10:aR=true
        ·subst c10
         replace H:=it_ H;by_cases c11:aC.length<8796093022208
         ·rw [if_pos c11] at H
          have bO:=ak_ c11;clear c11;obtain⟨aD,aK⟩:∃ y_:List ByteArray,y_=(aC++[a1]):=⟨_,rfl⟩;replace H:(if 0≤aA then(if aA<(l0.length:Int) then(if aD.length<8796093022208 then(i7_put.l0 kj7 l0 a1 (aD++[rdOf ByteArray.empty l0 aA]) true (wrap64 (aA+1))) else(none)) else(none)) else(none))=some (r1,r2):=by first|(rw [aK];with_reducible exact H)|(have H2_:=(Option.bind_some _ _).symm.trans H;rw [aK];with_reducible exact H2_)|(have H2_:=(Option.bind_some _ _).symm.trans H;with_reducible exact H2_)|with_reducible exact H|(rw [aK];exact H)|exact H
          have bP:=ak_ aK;clear aK;by_cases c12:0≤aA
          ·rw [if_pos c12] at H
           have c12b0:decide (0≤aA)=true:=decide_eq_true c12;clear c12;by_cases c13:aA<(l0.length:Int)
           ·rw [if_pos c13] at H
            have c13b0:decide (aA<(l0.length:Int))=true:=decide_eq_true c13;clear c13;by_cases c14:aD.length<8796093022208
            ·rw [if_pos c14] at H
             have bQ:=ak_ c14;clear c14;obtain⟨bG,aM⟩:∃ y_:List ByteArray,y_=(aD++[rdOf ByteArray.empty l0 aA]):=⟨_,rfl⟩;replace H:(i7_put.l0 kj7 l0 a1 bG true (wrap64 (aA+1)))=some (r1,r2):=by first|(rw [aM];with_reducible exact H)|(have H2_:=(Option.bind_some _ _).symm.trans H;rw [aM];with_reducible exact H2_)|(have H2_:=(Option.bind_some _ _).symm.trans H;with_reducible exact H2_)|with_reducible exact H|(rw [aM];exact H)|exact H
             have bR:=ak_ aM;clear aM;have H':=ak_ H;clear H
             go_wp2_with (first|((with_reducible refine gate_builtin (b:=.append) (xs:=#[.tmp 33,.tmp 35]) rfl ?_);at_builtin;refine Kd.R_append Kd.string (w0:=w) w.heap.size rfl (.tmp 33) (.tmp 35) 22 9 (.string ⟨#[]⟩) 16 rfl Tryz.underlying22 info9 rfl (by decide) (by omega) u6 aC a1 [.string a1] (fun k_=>(w.heap.size≤k_)) (fun _=>False) rfl rfl ?aP (fun _ hk=>hk.elim) ?aF ?aO ?aB ?aS ?aL ?_;(case aP=>exact rfl);(case aB=>exact hb_);(case aF=>exact (fun k_ hk=>(Nat.le_trans hz_ hk)));(case aO=>exact (ra_ HO_6));(case aS=>exact hz_);(case aL=>have:=bO.out;omega);intro bS w15 ho hb hg hat;rw [← bP.out] at ho;replace HO_0:=ak_ (Kd.V_afterv (ok:=(fun k_=>(P0_ k_∨w.heap.size≤k_))) (va_ HO_0) hg hat);replace HB:=ak_ (hb);have bH:=ak_ (ho);clear HO_6;clear ho hb hg hat;have aW:0≤(aA:Int):=od_;have aX:aA<(l0.length:Int):=od_;obtain⟨bT,bU,cF⟩:=Kd.at_string (Kd.V_reads' HO_0.out).2.2 aA aW aX;obtain rfl:aJ=bT:=(by injection bU);replace aW:=eq_true aW;replace aX:=eq_true aX)|((with_reducible refine gate_builtin (b:=.append) (xs:=#[.tmp 37,.tmp 42]) rfl ?_);at_builtin;refine Kd.R_append Kd.string (w0:=w) w.heap.size rfl (.tmp 37) (.tmp 42) 22 9 (.string ⟨#[]⟩) 16 rfl Tryz.underlying22 info9 rfl (by decide) (by omega) bS aD (rdOf ByteArray.empty l0 aA) [.string (rdOf ByteArray.empty l0 aA)] (fun k_=>(w.heap.size≤k_)) (fun _=>False) rfl rfl ?aP (fun _ hk=>hk.elim) ?aF ?aO ?aB ?aS ?aL ?_;(case aP=>exact rfl);(case aB=>exact hb_);(case aF=>exact (fun k_ hk=>(Nat.le_trans hz_ hk)));(case aO=>exact (ra_ bH));(case aS=>exact hz_);(case aL=>have:=bQ.out;omega);intro v221 w16 ho hb hg hat;rw [← bR.out] at ho;replace HO_0:=ak_ (Kd.V_afterv (ok:=(fun k_=>(P0_ k_∨w.heap.size≤k_))) (va_ HO_0) hg hat);replace HB:=ak_ (hb);have bV:=ak_ (ho);clear bH;clear ho hb hg hat))
             go_roundg kj7
             case measure=>have:=HK1.out;have:=HJ7.out;omega
             case rel=>exact ⟨(bG),(true),(wrap64 (aA+1)),rr_,rr_,H',⟨by have:=HK1.out;have:=HJ7.out;omega⟩,⟨va_ HO_0⟩,⟨by(with_reducible repeat (first|apply Kd.R_alloc|apply Kd.R_drewN|apply Kd.R_drew));exact bV.out⟩,⟨hs_⟩⟩
            ·rw [if_neg c14] at H
             exact absurd H (by simp)
           ·rw [if_neg c13] at H
            exact absurd H (by simp)
          ·rw [if_neg c12] at H
           exact absurd H (by simp)
         ·rw [if_neg c11] at H
          exact absurd H (by simp)
        ·replace c10:=Bool.eq_false_iff.mpr c10
         subst c10;replace H:=if_f_ H;by_cases c17:0≤aA
         ·rw [if_pos c17] at H
          have c17b0:decide (0≤aA)=true:=decide_eq_true c17;clear c17;by_cases c18:aA<(l0.length:Int)
          ·rw [if_pos c18] at H
           have c18b0:decide (aA<(l0.length:Int))=true:=decide_eq_true c18;clear c18;by_cases c19:aC.length<8796093022208
           ·rw [if_pos c19] at H
            have bW:=ak_ c19;clear c19;obtain⟨bI,aN⟩:∃ y_:List ByteArray,y_=(aC++[rdOf ByteArray.empty l0 aA]):=⟨_,rfl⟩;replace H:(i7_put.l0 kj7 l0 a1 bI aE (wrap64 (aA+1)))=some (r1,r2):=by first|(rw [aN];with_reducible exact H)|(have H2_:=(Option.bind_some _ _).symm.trans H;rw [aN];with_reducible exact H2_)|(have H2_:=(Option.bind_some _ _).symm.trans H;with_reducible exact H2_)|with_reducible exact H|(rw [aN];exact H)|exact H
            have bX:=ak_ aN;clear aN;have H':=ak_ H;clear H;have aY:0≤(aA:Int):=od_;have aZ:aA<(l0.length:Int):=od_;obtain⟨bY,bZ,cG⟩:=Kd.at_string (Kd.V_reads' HO_0.out).2.2 aA aY aZ;obtain rfl:aJ=bY:=(by injection bZ)
            replace aY:=eq_true aY;replace aZ:=eq_true aZ
            go_wp2_with (first|((with_reducible refine gate_builtin (b:=.append) (xs:=#[.tmp 37,.tmp 42]) rfl ?_);at_builtin;refine Kd.R_append Kd.string (w0:=w) w.heap.size rfl (.tmp 37) (.tmp 42) 22 9 (.string ⟨#[]⟩) 16 rfl Tryz.underlying22 info9 rfl (by decide) (by omega) u6 aC (rdOf ByteArray.empty l0 aA) [.string (rdOf ByteArray.empty l0 aA)] (fun k_=>(w.heap.size≤k_)) (fun _=>False) rfl rfl ?aP (fun _ hk=>hk.elim) ?aF ?aO ?aB ?aS ?aL ?_;(case aP=>exact rfl);(case aB=>exact hb_);(case aF=>exact (fun k_ hk=>(Nat.le_trans hz_ hk)));(case aO=>exact (ra_ HO_6));(case aS=>exact hz_);(case aL=>have:=bW.out;omega);intro v225 w20 ho hb hg hat;rw [← bX.out] at ho;replace HO_0:=ak_ (Kd.V_afterv (ok:=(fun k_=>(P0_ k_∨w.heap.size≤k_))) (va_ HO_0) hg hat);replace HB:=ak_ (hb);have cA:=ak_ (ho);clear HO_6;clear ho hb hg hat))
            go_roundg kj7
            case measure=>have:=HK1.out;have:=HJ7.out;omega
            case rel=>exact ⟨(bI),(aE),(wrap64 (aA+1)),rr_,rr_,H',⟨by have:=HK1.out;have:=HJ7.out;omega⟩,⟨va_ HO_0⟩,⟨by(with_reducible repeat (first|apply Kd.R_alloc|apply Kd.R_drewN|apply Kd.R_drew));exact cA.out⟩,⟨hs_⟩⟩
           ·rw [if_neg c19] at H
            exact absurd H (by simp)
          ·rw [if_neg c18] at H
           exact absurd H (by simp)
         ·rw [if_neg c17] at H
          exact absurd H (by simp)
    ·rw [if_neg c6] at H
     exact absurd H (by simp)
   ·rw [if_neg c5] at H
    have bC:decide (aA<(l0.length:Int))=false:=decide_eq_false c5;clear c5;by_cases c21:aE=true
    ·subst c21
     replace H:=it_ H;simp only [Option.some.injEq,Prod.mk.injEq] at H;obtain⟨rfl,rfl⟩:=H
     go_wp2
     go_ret2
     exact⟨_,re_,Kd.V_mono (Kd.R_V (ra_ HO_6)) (fun k_ hk=>by first|exact⟨(.inr (hk.1)),hk.2⟩|exact(.inr (hk))),hs_⟩
    ·replace c21:=Bool.eq_false_iff.mpr c21
     subst c21;replace H:=if_f_ H;by_cases c22:aC.length<8796093022208
     ·rw [if_pos c22] at H
      have cB:=ak_ c22;clear c22;obtain⟨cC,aQ⟩:∃ y_:List ByteArray,y_=(aC++[a1]):=⟨_,rfl⟩;replace H:(some (cC,true))=some (r1,r2):=by first|(rw [aQ];with_reducible exact H)|(have H2_:=(Option.bind_some _ _).symm.trans H;rw [aQ];with_reducible exact H2_)|(have H2_:=(Option.bind_some _ _).symm.trans H;with_reducible exact H2_)|with_reducible exact H|(rw [aQ];exact H)|exact H
      have cD:=ak_ aQ;clear aQ;simp only [Option.some.injEq,Prod.mk.injEq] at H;obtain⟨rfl,rfl⟩:=H
      go_wp2_with (first|((with_reducible refine gate_builtin (b:=.append) (xs:=#[.tmp 46,.tmp 48]) rfl ?_);at_builtin;refine Kd.R_append Kd.string (w0:=w) w.heap.size rfl (.tmp 46) (.tmp 48) 22 9 (.string ⟨#[]⟩) 16 rfl Tryz.underlying22 info9 rfl (by decide) (by omega) u6 aC a1 [.string a1] (fun k_=>(w.heap.size≤k_)) (fun _=>False) rfl rfl ?aP (fun _ hk=>hk.elim) ?aF ?aO ?aB ?aS ?aL ?_;(case aP=>exact rfl);(case aB=>exact hb_);(case aF=>exact (fun k_ hk=>(Nat.le_trans hz_ hk)));(case aO=>exact (ra_ HO_6));(case aS=>exact hz_);(case aL=>have:=cB.out;omega);intro v228 w23 ho hb hg hat;rw [← cD.out] at ho;replace HO_0:=ak_ (Kd.V_afterv (ok:=(fun k_=>(P0_ k_∨w.heap.size≤k_))) (va_ HO_0) hg hat);replace HB:=ak_ (hb);have cE:=ak_ (ho);clear HO_6;clear ho hb hg hat))
      go_ret2
      exact⟨_,re_,Kd.V_mono (Kd.R_V (ra_ cE)) (fun k_ hk=>by first|exact⟨(.inr (hk.1)),hk.2⟩|exact(.inr (hk))),hs_⟩
     ·rw [if_neg c22] at H
      exact absurd H (by simp)
mutual
def i7_text.j0:Nat→ByteArray→ByteArray→ByteArray→ByteArray→List ByteArray→List (S39)→Option (ByteArray)
 |0,_,_,_,_,_,_=>none
 |k+1,x3,aN,aJ,aK,aL,aE=>if aJ.toList=([]:List UInt8) then(i7_text.j1 k x3 aN aJ aK aL aE) else(if x3.size+1≤9223372036854775807 then(if (x3++(⟨#[45]⟩:ByteArray)).size+aJ.size≤9223372036854775807 then(i7_text.j1 k ((x3++(⟨#[45]⟩:ByteArray))++aJ) aN aJ aK aL aE) else(none)) else(none))
def i7_text.j1:Nat→ByteArray→ByteArray→ByteArray→ByteArray→List ByteArray→List (S39)→Option (ByteArray)
 |0,_,_,_,_,_,_=>none
 |k+1,x3,aN,aJ,aK,aL,aE=>if aK.toList=([]:List UInt8) then(i7_text.j2 k x3 aN aJ aK aL aE) else(if x3.size+1≤9223372036854775807 then(if (x3++(⟨#[45]⟩:ByteArray)).size+aK.size≤9223372036854775807 then(i7_text.j2 k ((x3++(⟨#[45]⟩:ByteArray))++aK) aN aJ aK aL aE) else(none)) else(none))
def i7_text.j2:Nat→ByteArray→ByteArray→ByteArray→ByteArray→List ByteArray→List (S39)→Option (ByteArray)
 |0,_,_,_,_,_,_=>none
 |k+1,x3,aN,aJ,aK,aL,aE=>i7_text.l0 k x3 0 aN aJ aK aL aE
def i7_text.l0:Nat→ByteArray→Int→ByteArray→ByteArray→ByteArray→List ByteArray→List (S39)→Option (ByteArray)
 |0,_,_,_,_,_,_,_=>none
 |k+1,x3,x4,aN,aJ,aK,aL,aE=>if x4<(aL.length:Int) then(if x3.size+1≤9223372036854775807 then(if 0≤x4 then(if (x3++(⟨#[45]⟩:ByteArray)).size+(rdOf ByteArray.empty aL x4).size≤9223372036854775807 then(i7_text.l0 k ((x3++(⟨#[45]⟩:ByteArray))++(rdOf ByteArray.empty aL x4)) (wrap64 (x4+1)) aN aJ aK aL aE) else(none)) else(none)) else(none)) else(i7_text.l1 k x3 0 aN aJ aK aL aE)
def i7_text.l1:Nat→ByteArray→Int→ByteArray→ByteArray→ByteArray→List ByteArray→List (S39)→Option (ByteArray)
 |0,_,_,_,_,_,_,_=>none
 |k+1,x3,x5,aN,aJ,aK,aL,aE=>if x5<(aE.length:Int) then(if x5=0 then(if x3.size+2≤9223372036854775807 then(i7_text.j5 k (x3++(⟨#[45,117]⟩:ByteArray)) x5 aN aJ aK aL aE) else(none)) else(i7_text.j5 k x3 x5 aN aJ aK aL aE)) else(some x3)
def i7_text.j5:Nat→ByteArray→Int→ByteArray→ByteArray→ByteArray→List ByteArray→List (S39)→Option (ByteArray)
 |0,_,_,_,_,_,_,_=>none
 |k+1,x3,x5,aN,aJ,aK,aL,aE=>if x3.size+1≤9223372036854775807 then(if 0≤x5 then(if x5<(aE.length:Int) then(if (x3++(⟨#[45]⟩:ByteArray)).size+((rd_T39 aE x5).f0).size≤9223372036854775807 then(if ((rd_T39 aE x5).f1).toList=([]:List UInt8) then(i7_text.l1 k ((x3++(⟨#[45]⟩:ByteArray))++((rd_T39 aE x5).f0)) (wrap64 (x5+1)) aN aJ aK aL aE) else(if ((x3++(⟨#[45]⟩:ByteArray))++((rd_T39 aE x5).f0)).size+1≤9223372036854775807 then(if (((x3++(⟨#[45]⟩:ByteArray))++((rd_T39 aE x5).f0))++(⟨#[45]⟩:ByteArray)).size+((rd_T39 aE x5).f1).size≤9223372036854775807 then(i7_text.l1 k ((((x3++(⟨#[45]⟩:ByteArray))++((rd_T39 aE x5).f0))++(⟨#[45]⟩:ByteArray))++((rd_T39 aE x5).f1)) (wrap64 (x5+1)) aN aJ aK aL aE) else(none)) else(none))) else(none)) else(none)) else(none)) else(none)
end
def i7_text.f (k:Nat) (aF:ByteArray) (aG:ByteArray) (aH:ByteArray) (aC:List ByteArray) (aA:List (S39)):Option (ByteArray):=if aF.toList=([]:List UInt8) then(i7_text.j0 k (⟨#[117,110,100]⟩:ByteArray) aF aG aH aC aA) else(i7_text.j0 k aF aF aG aH aC aA)
set_option maxHeartbeats 8000000 in
set_option maxRecDepth 100000 in
theorem i7_text.calls (k:Nat) (aF:ByteArray) (aG:ByteArray) (aH:ByteArray) (aR:Option Addr) (aS:Nat) (aC:List ByteArray) (aT:Option Addr) (aU:Nat) (aA:List (S39)) (r:ByteArray) (w:World) (hr0_3:Kd.C Kd.string w aR aC.length aC) (hc0_3:aC.length≤aS) (hr0_4:Kd.C k39 w aT aA.length aA) (hc0_4:aA.length≤aU) (h:i7_text.f k aF aG aH aC aA=some r):
 Calls Tryz.prog 37 #[.agg #[.string aF,.string aG,.string aH,.slice aR aC.length aS,.slice aT aA.length aU]] w fun e w'=>e=.returned (.string r)∧Below w.heap.size w w':=by
 have hu25:=Tryz.underlying25;have cG:=ak_ hr0_3;have HC0_3:=ak_ hc0_3;clear hr0_3 hc0_3;have bE:=ak_ hr0_4;have HC0_4:=ak_ hc0_4;clear hr0_4 hc0_4;have HB:=ak_ (Below.refl w.heap.size w);have H:(if aF.toList=([]:List UInt8) then(i7_text.j0 k (⟨#[117,110,100]⟩:ByteArray) aF aG aH aC aA) else(i7_text.j0 k aF aF aG aH aC aA))=some r:=h;clear h;have HC2:=ak_ H;clear H
 go_enter Tryz.func37,Tryz.ntmps37
 go_upto_if 9 with (first|((with_reducible refine gate_dst (N:=1) rfl ?_);refine bx_ 1 #[.string aF,.string aG,.string aH,.slice aR aC.length aS,.slice aT aA.length aU] 25 ?_;intro bD hg w3 hbox hb;have aD:=ak_ (hbox);have GW255:=ak_ (gw_ hg);have GE255:=ak_ (gw_ hg);replace HB:=ak_ (below_step hb_ hb);clear hb hbox hg;obtain⟨cH,cI,cJ,cK,cL,cM,cN,cO,cP,cQ⟩:=c5_ aD))
 (try simp only [Act.put,List.setIfInBounds_toArray,List.set_cons_zero,List.set_cons_succ])
 go_cut [3] (fun v3 wc=>∃ (kq:Nat) (aP:ByteArray),v3=.string aP∧Aside0 (i7_text.j0 kq aP aF aG aH aC aA=some r)∧Aside0 (kq≤k)∧Aside0 (wc.heap[bD]?=some (.cells #[.string aF,.string aG,.string aH,(.slice aR aC.length aS),(.slice aT aA.length aU)] 25 (0,0)))∧Aside0 (Below w.heap.size w wc))
 case first=>
  have H:=HC2.out;clear HC2;by_cases c5:aF.toList=([]:List UInt8)
  ·rw [if_pos c5] at H
   obtain⟨bF,bL,bM⟩:=eq3_ c5;clear c5
   (first|rw [bF]|rw [bL]|rw [bM]|(simp only [i64_w,i32_w];rw [bF])|skip)
   (try simp only [Bool.not_true,Bool.not_false])
   have H':=ak_ H;clear H
   go_wp2
   go_meet
   case rel=>exact ⟨_,((⟨#[117,110,100]⟩:ByteArray)),rr_,H',⟨by first|omega|exact Nat.le_refl _⟩,⟨bk_ aD⟩,⟨hs_⟩⟩
  ·rw [if_neg c5] at H
   obtain⟨bF,bL,bM⟩:=ne3_ c5
   (first|rw [bF]|rw [bL]|rw [bM]|(simp only [i64_w,i32_w];rw [bF])|skip)
   (try simp only [Bool.not_true,Bool.not_false])
   have H':=ak_ H;clear H
   go_wp2
   go_meet
   case rel=>exact ⟨_,(aF),rr_,H',⟨by first|omega|exact Nat.le_refl _⟩,⟨bk_ aD⟩,⟨hs_⟩⟩
 case rest =>
  clear HC2;clear cH cI cJ cK cL cM cN cO cP cQ;obtain⟨kq,aP,rfl,HA,HJ1,aD,HB⟩:=hcut;cases kq with
  |zero=>exact absurd HA.out (by simp [i7_text.j0])
  | succ kj1 =>
   have H:=HA.out;clear HA;simp only [i7_text.j0] at H;have HC6:=ak_ H;clear H;obtain⟨cR,cS,cT,cU,cV,cW,cX,cY,cZ,dA⟩:=c5_ aD
   go_upto_if 12 with (fail)
   go_cut [3] (fun v3 wc=>∃ (kq:Nat) (aI:ByteArray),v3=.string aI∧Aside0 (i7_text.j1 kq aI aF aG aH aC aA=some r)∧Aside0 (kq≤kj1)∧Aside0 (wc.heap[bD]?=some (.cells #[.string aF,.string aG,.string aH,(.slice aR aC.length aS),(.slice aT aA.length aU)] 25 (0,0)))∧Aside0 (Below w.heap.size w wc))
   case first=>
    have H:=HC6.out;clear HC6;by_cases c8:aG.toList=([]:List UInt8)
    ·rw [if_pos c8] at H
     obtain⟨bG,bN,bO⟩:=eq3_ c8;clear c8
     (first|rw [bG]|rw [bN]|rw [bO]|(simp only [i64_w,i32_w];rw [bG])|skip)
     (try simp only [Bool.not_true,Bool.not_false])
     have H':=ak_ H;clear H
     go_wp2
     go_meet
     case rel=>exact ⟨_,(aP),rr_,H',⟨by have:=HJ1.out;first|omega|exact Nat.le_refl _⟩,⟨bk_ aD⟩,⟨hs_⟩⟩
    ·rw [if_neg c8] at H
     obtain⟨bG,bN,bO⟩:=ne3_ c8
     (first|rw [bG]|rw [bN]|rw [bO]|(simp only [i64_w,i32_w];rw [bG])|skip)
     (try simp only [Bool.not_true,Bool.not_false])
     by_cases c9:aP.size+1≤9223372036854775807
     ·rw [if_pos c9] at H
      have c9b0:=eq_true c9;have c9b1:decide (aP.size+1≤9223372036854775807)=true:=decide_eq_true c9;try have dB:(9223372036854775807<aP.size+1)=False:=eq_false (Nat.not_lt.2 c9)
      (try (have dC:=dB;simp only [ByteArray.size_append,sz1_,sz2_,sz3_] at dC))
      by_cases c10:(aP++(⟨#[45]⟩:ByteArray)).size+aG.size≤9223372036854775807
      ·rw [if_pos c10] at H
       have c10b0:=eq_true c10;have c10b1:decide ((aP++(⟨#[45]⟩:ByteArray)).size+aG.size≤9223372036854775807)=true:=decide_eq_true c10;try have dD:(9223372036854775807<(aP++(⟨#[45]⟩:ByteArray)).size+aG.size)=False:=eq_false (Nat.not_lt.2 c10)
       (try (have dE:=dD;simp only [ByteArray.size_append,sz1_,sz2_,sz3_] at dE))
       have H':=ak_ H;clear H;obtain⟨fI,fJ,fK,fL,fM,fN,fO,fP,fQ,fR⟩:=c5_ aD
       go_wp2
       go_meet
       case rel=>exact ⟨_,((aP++(⟨#[45]⟩:ByteArray))++aG),rr_,H',⟨by have:=HJ1.out;first|omega|exact Nat.le_refl _⟩,⟨bk_ aD⟩,⟨hs_⟩⟩
      ·rw [if_neg c10] at H
       exact absurd H (by simp)
     ·rw [if_neg c9] at H
      exact absurd H (by simp)
   case rest =>
    clear HC6;clear cR cS cT cU cV cW cX cY cZ dA;obtain⟨kq,aI,rfl,HA,HJ5,aD,HB⟩:=hcut;cases kq with
    |zero=>exact absurd HA.out (by simp [i7_text.j1])
    | succ kj5 =>
     have H:=HA.out;clear HA;simp only [i7_text.j1] at H;have bP:=ak_ H;clear H;obtain⟨dF,dG,dH,dI,dJ,dK,dL,dM,dN,dO⟩:=c5_ aD
     go_upto_if 20 with (fail)
     go_cut [3] (fun v3 wc=>∃ (kq:Nat) (bJ:ByteArray),v3=.string bJ∧Aside0 (i7_text.j2 kq bJ aF aG aH aC aA=some r)∧Aside0 (kq≤kj5)∧Aside0 (wc.heap[bD]?=some (.cells #[.string aF,.string aG,.string aH,(.slice aR aC.length aS),(.slice aT aA.length aU)] 25 (0,0)))∧Aside0 (Below w.heap.size w wc))
     case first=>
      have H:=bP.out;clear bP;by_cases c14:aH.toList=([]:List UInt8)
      ·rw [if_pos c14] at H
       obtain⟨bH,bQ,bR⟩:=eq3_ c14;clear c14
       (first|rw [bH]|rw [bQ]|rw [bR]|(simp only [i64_w,i32_w];rw [bH])|skip)
       (try simp only [Bool.not_true,Bool.not_false])
       have H':=ak_ H;clear H
       go_wp2
       go_meet
       case rel=>exact ⟨_,(aI),rr_,H',⟨by have:=HJ1.out;have:=HJ5.out;first|omega|exact Nat.le_refl _⟩,⟨bk_ aD⟩,⟨hs_⟩⟩
      ·rw [if_neg c14] at H
       obtain⟨bH,bQ,bR⟩:=ne3_ c14
       (first|rw [bH]|rw [bQ]|rw [bR]|(simp only [i64_w,i32_w];rw [bH])|skip)
       (try simp only [Bool.not_true,Bool.not_false])
       by_cases c15:aI.size+1≤9223372036854775807
       ·rw [if_pos c15] at H
        have c15b0:=eq_true c15;have c15b1:decide (aI.size+1≤9223372036854775807)=true:=decide_eq_true c15;try have dP:(9223372036854775807<aI.size+1)=False:=eq_false (Nat.not_lt.2 c15)
        (try (have dQ:=dP;simp only [ByteArray.size_append,sz1_,sz2_,sz3_] at dQ))
        by_cases c16:(aI++(⟨#[45]⟩:ByteArray)).size+aH.size≤9223372036854775807
        ·rw [if_pos c16] at H
         have c16b0:=eq_true c16;have c16b1:decide ((aI++(⟨#[45]⟩:ByteArray)).size+aH.size≤9223372036854775807)=true:=decide_eq_true c16;try have dR:(9223372036854775807<(aI++(⟨#[45]⟩:ByteArray)).size+aH.size)=False:=eq_false (Nat.not_lt.2 c16)
         (try (have dS:=dR;simp only [ByteArray.size_append,sz1_,sz2_,sz3_] at dS))
         have H':=ak_ H;clear H;obtain⟨fS,fT,fU,fV,fW,fX,fY,fZ,gA,gB⟩:=c5_ aD
         go_wp2
         go_meet
         case rel=>exact ⟨_,((aI++(⟨#[45]⟩:ByteArray))++aH),rr_,H',⟨by have:=HJ1.out;have:=HJ5.out;first|omega|exact Nat.le_refl _⟩,⟨bk_ aD⟩,⟨hs_⟩⟩
        ·rw [if_neg c16] at H
         exact absurd H (by simp)
       ·rw [if_neg c15] at H
        exact absurd H (by simp)
     case rest =>
      clear bP;clear dF dG dH dI dJ dK dL dM dN dO;obtain⟨kq,bJ,rfl,HA,HJ11,aD,HB⟩:=hcut;cases kq with
      |zero=>exact absurd HA.out (by simp [i7_text.j2])
      | succ kj11 =>
       have H:=HA.out;clear HA;simp only [i7_text.j2] at H;have H':=ak_ H;clear H
       go_wp2
       go_loopg [3,4] kj11 (fun kq v3 v4 w'=>∃ (aQ:ByteArray) (aO:Int),v3=.string aQ∧v4=.int .i64 aO∧Aside0 (i7_text.l0 kq aQ aO aF aG aH aC aA=some r)∧Aside0 (kq≤kj11)∧Aside0 (w'.heap[bD]?=some (.cells #[.string aF,.string aG,.string aH,(.slice aR aC.length aS),(.slice aT aA.length aU)] 25 (0,0)))∧Aside0 (Below w.heap.size w w'))
       case atStart=>exact ⟨(bJ),(0),rr_,rr_,H',⟨Nat.le_refl _⟩,⟨bk_ aD⟩,⟨hs_⟩⟩
       case round =>
        clear H';obtain⟨aQ,aO,rfl,rfl,HA,HK4,aD,HB⟩:=hrel;cases gk with
        |zero=>exact absurd HA.out (by simp [i7_text.l0])
        | succ k4 =>
         have H:=HA.out;clear HA;simp only [i7_text.l0] at H;by_cases c18:aO<(aC.length:Int)
         ·rw [if_pos c18] at H
          have cE:decide (aO<(aC.length:Int))=true:=decide_eq_true c18;clear c18;by_cases c19:aQ.size+1≤9223372036854775807
          ·rw [if_pos c19] at H
           have c19b0:=eq_true c19;have c19b1:decide (aQ.size+1≤9223372036854775807)=true:=decide_eq_true c19;try have dT:(9223372036854775807<aQ.size+1)=False:=eq_false (Nat.not_lt.2 c19)
           (try (have dU:=dT;simp only [ByteArray.size_append,sz1_,sz2_,sz3_] at dU))
           by_cases c20:0≤aO
           ·rw [if_pos c20] at H
            have c20b0:decide (0≤aO)=true:=decide_eq_true c20;clear c20;by_cases c21:(aQ++(⟨#[45]⟩:ByteArray)).size+(rdOf ByteArray.empty aC aO).size≤9223372036854775807
            ·rw [if_pos c21] at H
             have c21b0:=eq_true c21;have c21b1:decide ((aQ++(⟨#[45]⟩:ByteArray)).size+(rdOf ByteArray.empty aC aO).size≤9223372036854775807)=true:=decide_eq_true c21;try have dV:(9223372036854775807<(aQ++(⟨#[45]⟩:ByteArray)).size+(rdOf ByteArray.empty aC aO).size)=False:=eq_false (Nat.not_lt.2 c21)
             (try (have dW:=dV;simp only [ByteArray.size_append,sz1_,sz2_,sz3_] at dW))
             have H':=ak_ H;clear H;obtain⟨gC,gD,gE,gF,gG,gH,gI,gJ,gK,gL⟩:=c5_ aD;have bS:0≤(aO:Int):=od_;have bT:aO<(aC.length:Int):=od_;obtain⟨ad256,dX,bU⟩:=Kd.at_string cG.out aO bS bT;cases dX;replace bU:=hx_ HB.out bU;replace bS:=eq_true bS;replace bT:=eq_true bT
             go_wp2
             go_roundg k4
             case measure=>have:=HJ1.out;have:=HJ5.out;have:=HJ11.out;have:=HK4.out;omega
             case rel=>exact ⟨((aQ++(⟨#[45]⟩:ByteArray))++(rdOf ByteArray.empty aC aO)),(wrap64 (aO+1)),rr_,rr_,H',⟨by have:=HJ1.out;have:=HJ5.out;have:=HJ11.out;have:=HK4.out;omega⟩,⟨bk_ aD⟩,⟨hs_⟩⟩
            ·rw [if_neg c21] at H
             exact absurd H (by simp)
           ·rw [if_neg c20] at H
            exact absurd H (by simp)
          ·rw [if_neg c19] at H
           exact absurd H (by simp)
         ·rw [if_neg c18] at H
          have cE:decide (aO<(aC.length:Int))=false:=decide_eq_false c18;clear c18;have H':=ak_ H;clear H;obtain⟨dY,dZ,eA,eB,eC,eD,eE,eF,eG,eH⟩:=c5_ aD
          go_wp2
          go_loopg [3,5] k4 (fun kq v3 v5 w'=>∃ (aI:ByteArray) (aB:Int),v3=.string aI∧v5=.int .i64 aB∧Aside0 (i7_text.l1 kq aI aB aF aG aH aC aA=some r)∧Aside0 (kq≤k4)∧Aside0 (w'.heap[bD]?=some (.cells #[.string aF,.string aG,.string aH,(.slice aR aC.length aS),(.slice aT aA.length aU)] 25 (0,0)))∧Aside0 (Below w.heap.size w w'))
          case atStart=>exact ⟨(aQ),(0),rr_,rr_,H',⟨Nat.le_refl _⟩,⟨bk_ aD⟩,⟨hs_⟩⟩
          case round =>
           clear H';clear cE dY dZ eA eB eC eD eE eF eG eH;obtain⟨aI,aB,rfl,rfl,HA,HK5,aD,HB⟩:=hrel;cases gk with
           |zero=>exact absurd HA.out (by simp [i7_text.l1])
           | succ k5 =>
            have H:=HA.out;clear HA;simp only [i7_text.l1] at H;by_cases c24:aB<(aA.length:Int)
            ·rw [if_pos c24] at H
             have cF:decide (aB<(aA.length:Int))=true:=decide_eq_true c24;clear c24;have bV:=ak_ H;clear H;obtain⟨eI,eJ,eK,eL,eM,eN,eO,eP,eQ,eR⟩:=c5_ aD
             go_upto_if 49 with (fail)
             go_cut [3] (fun v3 wc=>∃ (kq:Nat) (aM:ByteArray),v3=.string aM∧Aside0 (i7_text.j5 kq aM aB aF aG aH aC aA=some r)∧Aside0 (kq≤k5)∧Aside0 (wc.heap[bD]?=some (.cells #[.string aF,.string aG,.string aH,(.slice aR aC.length aS),(.slice aT aA.length aU)] 25 (0,0)))∧Aside0 (Below w.heap.size w wc))
             case first=>
              have H:=bV.out;clear bV;by_cases c27:aB=0
              ·rw [if_pos c27] at H
               obtain⟨bI,bW⟩:=eq2_ c27;clear c27
               (first|rw [bI]|rw [bW]|rw [eS]|(simp only [i64_w,i32_w];rw [bI])|skip)
               (try simp only [Bool.not_true,Bool.not_false])
               by_cases c28:aI.size+2≤9223372036854775807
               ·rw [if_pos c28] at H
                have c28b0:=eq_true c28;have c28b1:decide (aI.size+2≤9223372036854775807)=true:=decide_eq_true c28;try have eT:(9223372036854775807<aI.size+2)=False:=eq_false (Nat.not_lt.2 c28)
                (try (have eU:=eT;simp only [ByteArray.size_append,sz1_,sz2_,sz3_] at eU))
                have H':=ak_ H;clear H
                go_wp2
                go_meet
                case rel=>exact ⟨_,(aI++(⟨#[45,117]⟩:ByteArray)),rr_,H',⟨by have:=HJ1.out;have:=HJ5.out;have:=HJ11.out;have:=HK4.out;have:=HK5.out;first|omega|exact Nat.le_refl _⟩,⟨bk_ aD⟩,⟨hs_⟩⟩
               ·rw [if_neg c28] at H
                exact absurd H (by simp)
              ·rw [if_neg c27] at H
               obtain⟨bI,bW⟩:=ne2_ c27
               (first|rw [bI]|rw [bW]|rw [eS]|(simp only [i64_w,i32_w];rw [bI])|skip)
               (try simp only [Bool.not_true,Bool.not_false])
               have H':=ak_ H;clear H
               go_wp2
               go_meet
               case rel=>exact ⟨_,(aI),rr_,H',⟨by have:=HJ1.out;have:=HJ5.out;have:=HJ11.out;have:=HK4.out;have:=HK5.out;first|omega|exact Nat.le_refl _⟩,⟨bk_ aD⟩,⟨hs_⟩⟩
             case rest=>
              clear bV;clear cF eI eJ eK eL eM eN eO eP eQ eR;obtain⟨kq,aM,rfl,HA,HJ24,aD,HB⟩:=hcut;cases kq with
              |zero=>exact absurd HA.out (by simp [i7_text.j5])
              | succ kj24=>
               have H:=HA.out;clear HA;simp only [i7_text.j5] at H;by_cases c29:aM.size+1≤9223372036854775807
               ·rw [if_pos c29] at H
                have c29b0:=eq_true c29;have c29b1:decide (aM.size+1≤9223372036854775807)=true:=decide_eq_true c29;try have eV:(9223372036854775807<aM.size+1)=False:=eq_false (Nat.not_lt.2 c29)
                (try (have eW:=eV;simp only [ByteArray.size_append,sz1_,sz2_,sz3_] at eW))
                by_cases c30:0≤aB
                ·rw [if_pos c30] at H
                 have c30b0:decide (0≤aB)=true:=decide_eq_true c30;clear c30;by_cases c31:aB<(aA.length:Int)
                 ·rw [if_pos c31] at H
                  have c31b0:decide (aB<(aA.length:Int))=true:=decide_eq_true c31;clear c31;by_cases c32:(aM++(⟨#[45]⟩:ByteArray)).size+((rd_T39 aA aB).f0).size≤9223372036854775807
                  ·rw [if_pos c32] at H
                   have c32b0:=eq_true c32;have c32b1:decide ((aM++(⟨#[45]⟩:ByteArray)).size+((rd_T39 aA aB).f0).size≤9223372036854775807)=true:=decide_eq_true c32;try have eX:(9223372036854775807<(aM++(⟨#[45]⟩:ByteArray)).size+((rd_T39 aA aB).f0).size)=False:=eq_false (Nat.not_lt.2 c32)
                   (try (have eY:=eX;simp only [ByteArray.size_append,sz1_,sz2_,sz3_] at eY))
                   by_cases c33:((rd_T39 aA aB).f1).toList=([]:List UInt8)
                   ·rw [if_pos c33] at H
                    obtain⟨eZ,fA,fB⟩:=eq3_ c33;clear c33;have H':=ak_ H;clear H;obtain⟨gM,gN,gO,gP,gQ,gR,gS,gT,gU,gV⟩:=c5_ aD;have aV:0≤(aB:Int):=od_;have aW:aB<(aA.length:Int):=od_;obtain⟨bK,bX,aX,aY⟩:=at_T39 bE.out aB aV aW;cases bX;replace aX:=hx_ HB.out aX;replace aY:=hx_ HB.out aY;replace aV:=eq_true aV;replace aW:=eq_true aW;have aZ:0≤(aB:Int):=od_;have bA:aB<(aA.length:Int):=od_;obtain⟨bY,bZ,bB,bC⟩:=at_T39 bE.out aB aZ bA;obtain rfl:bK=bY:=(by injection bZ)
                    replace bB:=hx_ HB.out bB;replace bC:=hx_ HB.out bC;replace aZ:=eq_true aZ;replace bA:=eq_true bA
                    go_wp2
                    go_roundg kj24
                    case measure=>have:=HJ1.out;have:=HJ5.out;have:=HJ11.out;have:=HK4.out;have:=HK5.out;have:=HJ24.out;omega
                    case rel=>exact ⟨((aM++(⟨#[45]⟩:ByteArray))++((rd_T39 aA aB).f0)),(wrap64 (aB+1)),rr_,rr_,H',⟨by have:=HJ1.out;have:=HJ5.out;have:=HJ11.out;have:=HK4.out;have:=HK5.out;have:=HJ24.out;omega⟩,⟨bk_ aD⟩,⟨hs_⟩⟩
                   ·rw [if_neg c33] at H
                    obtain⟨eZ,fA,fB⟩:=ne3_ c33;by_cases c35:((aM++(⟨#[45]⟩:ByteArray))++((rd_T39 aA aB).f0)).size+1≤9223372036854775807
                    ·rw [if_pos c35] at H
                     have c35b0:=eq_true c35;have c35b1:decide (((aM++(⟨#[45]⟩:ByteArray))++((rd_T39 aA aB).f0)).size+1≤9223372036854775807)=true:=decide_eq_true c35;try have fC:(9223372036854775807<((aM++(⟨#[45]⟩:ByteArray))++((rd_T39 aA aB).f0)).size+1)=False:=eq_false (Nat.not_lt.2 c35)
                     (try (have fD:=fC;simp only [ByteArray.size_append,sz1_,sz2_,sz3_] at fD))
                     by_cases c36:(((aM++(⟨#[45]⟩:ByteArray))++((rd_T39 aA aB).f0))++(⟨#[45]⟩:ByteArray)).size+((rd_T39 aA aB).f1).size≤9223372036854775807
                     ·rw [if_pos c36] at H
                      have c36b0:=eq_true c36;have c36b1:decide ((((aM++(⟨#[45]⟩:ByteArray))++((rd_T39 aA aB).f0))++(⟨#[45]⟩:ByteArray)).size+((rd_T39 aA aB).f1).size≤9223372036854775807)=true:=decide_eq_true c36;try have fE:(9223372036854775807<(((aM++(⟨#[45]⟩:ByteArray))++((rd_T39 aA aB).f0))++(⟨#[45]⟩:ByteArray)).size+((rd_T39 aA aB).f1).size)=False:=eq_false (Nat.not_lt.2 c36)
                      (try (have fF:=fE;simp only [ByteArray.size_append,sz1_,sz2_,sz3_] at fF))
                      have H':=ak_ H;clear H;obtain⟨gW,gX,gY,gZ,hA,hB,hC,hD,hE,hF⟩:=c5_ aD;have aV:0≤(aB:Int):=od_;have aW:aB<(aA.length:Int):=od_;obtain⟨bK,bX,aX,aY⟩:=at_T39 bE.out aB aV aW;cases bX;replace aX:=hx_ HB.out aX;replace aY:=hx_ HB.out aY;replace aV:=eq_true aV;replace aW:=eq_true aW;have aZ:0≤(aB:Int):=od_;have bA:aB<(aA.length:Int):=od_;obtain⟨bY,bZ,bB,bC⟩:=at_T39 bE.out aB aZ bA;obtain rfl:bK=bY:=(by injection bZ)
                      replace bB:=hx_ HB.out bB;replace bC:=hx_ HB.out bC;replace aZ:=eq_true aZ;replace bA:=eq_true bA;have cA:0≤(aB:Int):=od_;have cB:aB<(aA.length:Int):=od_;obtain⟨fG,fH,cC,cD⟩:=at_T39 bE.out aB cA cB;obtain rfl:bK=fG:=(by injection fH)
                      replace cC:=hx_ HB.out cC;replace cD:=hx_ HB.out cD;replace cA:=eq_true cA;replace cB:=eq_true cB
                      go_wp2
                      go_roundg kj24
                      case measure=>have:=HJ1.out;have:=HJ5.out;have:=HJ11.out;have:=HK4.out;have:=HK5.out;have:=HJ24.out;omega
                      case rel=>exact ⟨((((aM++(⟨#[45]⟩:ByteArray))++((rd_T39 aA aB).f0))++(⟨#[45]⟩:ByteArray))++((rd_T39 aA aB).f1)),(wrap64 (aB+1)),rr_,rr_,H',⟨by have:=HJ1.out;have:=HJ5.out;have:=HJ11.out;have:=HK4.out;have:=HK5.out;have:=HJ24.out;omega⟩,⟨bk_ aD⟩,⟨hs_⟩⟩
                     ·rw [if_neg c36] at H
                      exact absurd H (by simp)
                    ·rw [if_neg c35] at H
                     exact absurd H (by simp)
                  ·rw [if_neg c32] at H
                   exact absurd H (by simp)
                 ·rw [if_neg c31] at H
                  exact absurd H (by simp)
                ·rw [if_neg c30] at H
                 exact absurd H (by simp)
               ·rw [if_neg c29] at H
                exact absurd H (by simp)
            ·rw [if_neg c24] at H
             have cF:decide (aB<(aA.length:Int))=false:=decide_eq_false c24;clear c24;obtain rfl:=Option.some.inj H;obtain⟨hG,hH,hI,hJ,hK,hL,hM,hN,hO,hP⟩:=c5_ aD
             go_wp2
             go_ret
             exact⟨re_,hs_⟩
mutual
def i7_Pieces.l0:Nat→ByteArray→ByteArray→List ByteArray→List Int→Int→Int→Option (List ByteArray×List Int)
 |0,_,_,_,_,_,_=>none
 |k+1,x0,x1,x6,x7,x8,x9=>if x9≤(x0.size:Int) then(i7_Pieces.l1 k x0 x1 x6 x7 x8 x9 (x9==(x0.size:Int)) 0) else(some (x6,x7))
def i7_Pieces.l1:Nat→ByteArray→ByteArray→List ByteArray→List Int→Int→Int→Bool→Int→Option (List ByteArray×List Int)
 |0,_,_,_,_,_,_,_,_=>none
 |k+1,x0,x1,x6,x7,x8,x9,x10,x11=>if x11<(x1.size:Int) then(i7_Pieces.j2 k x0 x1 x6 x7 x8 x9 x10 x11 (!x10)) else(i7_Pieces.j2 k x0 x1 x6 x7 x8 x9 x10 x11 false)
def i7_Pieces.j2:Nat→ByteArray→ByteArray→List ByteArray→List Int→Int→Int→Bool→Int→Bool→Option (List ByteArray×List Int)
 |0,_,_,_,_,_,_,_,_,_=>none
 |k+1,x0,x1,x6,x7,x8,x9,x10,x11,x31=>if x31=true then(if 0≤x9 then(if x9<(x0.size:Int) then(if 0≤x11 then(if x11<(x1.size:Int) then(i7_Pieces.l1 k x0 x1 x6 x7 x8 x9 ((bt x0 x9)==(bt x1 x11)) (wrap64 (x11+1))) else(none)) else(none)) else(none)) else(none)) else(if x10=true then(if 0≤x8 then(if x8≤x9 then(if x9≤(x0.size:Int) then(if x6.length<8796093022208 then(if x7.length<17592186044416 then(i7_Pieces.l0 k x0 x1 (x6++[x0.extract (x8:Int).toNat (x9:Int).toNat]) (x7++[x8]) (wrap64 (x9+1)) (wrap64 (x9+1))) else(none)) else(none)) else(none)) else(none)) else(none)) else(i7_Pieces.l0 k x0 x1 x6 x7 x8 (wrap64 (x9+1))))
end
def i7_Pieces.f (k:Nat) (a0:ByteArray) (a1:ByteArray):Option (List ByteArray×List Int):=i7_Pieces.l0 k a0 a1 (([]:List ByteArray)) (([]:List Int)) 0 0
set_option maxHeartbeats 8000000 in
set_option maxRecDepth 100000 in
theorem i7_Pieces.calls (k:Nat) (a0:ByteArray) (a1:ByteArray) (r1:List ByteArray) (r2:List Int) (w:World) (h:i7_Pieces.f k a0 a1=some (r1,r2)):
 Calls Tryz.prog 51 #[.string a0,.string a1] w fun e w'=>∃ v0_ v1_:Value,e=.returned (.tuple #[v0_,v1_])∧Kd.R Kd.string 9 w' w.heap.size (fun _=>True) v0_ r1∧Kd.R (Kd.int .i64) 3 w' w.heap.size (fun _=>True) v1_ r2∧Below w.heap.size w w':=by
 have HB:=ak_ (Below.refl w.heap.size w);have H:(i7_Pieces.l0 k a0 a1 (([]:List ByteArray)) (([]:List Int)) 0 0)=some (r1,r2):=h;clear h;obtain⟨aW,aQ⟩:∃ y_:List ByteArray,y_=(([]:List ByteArray)):=⟨_,rfl⟩;replace H:(i7_Pieces.l0 k a0 a1 aW (([]:List Int)) 0 0)=some (r1,r2):=by first|(rw [aQ];with_reducible exact H)|(have H2_:=(Option.bind_some _ _).symm.trans H;rw [aQ];with_reducible exact H2_)|(have H2_:=(Option.bind_some _ _).symm.trans H;with_reducible exact H2_)|with_reducible exact H|(rw [aQ];exact H)|exact H
 have aJ:=ak_ aQ;clear aQ;obtain⟨bF,aR⟩:∃ y_:List Int,y_=(([]:List Int)):=⟨_,rfl⟩;replace H:(i7_Pieces.l0 k a0 a1 aW bF 0 0)=some (r1,r2):=by first|(rw [aR];with_reducible exact H)|(have H2_:=(Option.bind_some _ _).symm.trans H;rw [aR];with_reducible exact H2_)|(have H2_:=(Option.bind_some _ _).symm.trans H;with_reducible exact H2_)|with_reducible exact H|(rw [aR];exact H)|exact H
 have aK:=ak_ aR;clear aR;have H':=ak_ H;clear H
 go_enter Tryz.func51,Tryz.ntmps51
 go_wp2_with (first|((with_reducible refine gate_dst (N:=12) rfl ?_);refine Kd.R_lit Kd.string _ 9 ?hg (N:=12) ?hd (xs:=([]:List ByteArray)) (inner:=[]) (ok:=fun _=>True) (okp:=fun _=>True) ?hr ?hp (fun _ hk=>hk) trivial (Below.refl _ _) (Nat.le_refl _) (by simp) ?_;(case hd=>rfl);(case hg=>rfl);(case hr=>first|(go_simp;done)|(go_simp;rfl));(case hp=>exact (Reps.none _ _));intro bG w3 ho4 hb hg_ hnew_;clear hg_ hnew_;(first|rw [← aJ.out] at ho4|(simp only [Int.reduceToNat] at ho4;rw [← aJ.out] at ho4));have aH:=ak_ (Kd.R_lower ho4 hz_);replace HB:=ak_ (below_step hb_ hb);clear hb ho4)|((with_reducible refine gate_dst (N:=13) rfl ?_);refine Kd.R_lit (Kd.int .i64) _ 3 ?hg (N:=13) ?hd (xs:=([]:List Int)) (inner:=[]) (ok:=fun _=>True) (okp:=fun _=>True) ?hr ?hp (fun _ hk=>hk) trivial (Below.refl _ _) (Nat.le_refl _) (by simp) ?_;(case hd=>rfl);(case hg=>rfl);(case hr=>first|(go_simp;done)|(go_simp;rfl));(case hp=>exact (Reps.none _ _));intro bH w5 ho6 hb hg_ hnew_;clear hg_ hnew_;(first|rw [← aK.out] at ho6|(simp only [Int.reduceToNat] at ho6;rw [← aK.out] at ho6));replace aH:=ak_ (Kd.R_below (ra_ aH) hb);have aX:=ak_ (Kd.R_lower ho6 hz_);replace HB:=ak_ (below_step hb_ hb);clear hb ho6))
 repeat (go_quiet (first|((with_reducible refine gate_dst (N:=12) rfl ?_);refine Kd.R_lit Kd.string _ 9 ?hg (N:=12) ?hd (xs:=([]:List ByteArray)) (inner:=[]) (ok:=fun _=>True) (okp:=fun _=>True) ?hr ?hp (fun _ hk=>hk) trivial (Below.refl _ _) (Nat.le_refl _) (by simp) ?_;(case hd=>rfl);(case hg=>rfl);(case hr=>first|(go_simp;done)|(go_simp;rfl));(case hp=>exact (Reps.none _ _));intro bG w3 ho4 hb hg_ hnew_;clear hg_ hnew_;(first|rw [← aJ.out] at ho4|(simp only [Int.reduceToNat] at ho4;rw [← aJ.out] at ho4));have aH:=ak_ (Kd.R_lower ho4 hz_);replace HB:=ak_ (below_step hb_ hb);clear hb ho4)|((with_reducible refine gate_dst (N:=13) rfl ?_);refine Kd.R_lit (Kd.int .i64) _ 3 ?hg (N:=13) ?hd (xs:=([]:List Int)) (inner:=[]) (ok:=fun _=>True) (okp:=fun _=>True) ?hr ?hp (fun _ hk=>hk) trivial (Below.refl _ _) (Nat.le_refl _) (by simp) ?_;(case hd=>rfl);(case hg=>rfl);(case hr=>first|(go_simp;done)|(go_simp;rfl));(case hp=>exact (Reps.none _ _));intro bH w5 ho6 hb hg_ hnew_;clear hg_ hnew_;(first|rw [← aK.out] at ho6|(simp only [Int.reduceToNat] at ho6;rw [← aK.out] at ho6));replace aH:=ak_ (Kd.R_below (ra_ aH) hb);have aX:=ak_ (Kd.R_lower ho6 hz_);replace HB:=ak_ (below_step hb_ hb);clear hb ho6));try go_wp2_with (first|((with_reducible refine gate_dst (N:=12) rfl ?_);refine Kd.R_lit Kd.string _ 9 ?hg (N:=12) ?hd (xs:=([]:List ByteArray)) (inner:=[]) (ok:=fun _=>True) (okp:=fun _=>True) ?hr ?hp (fun _ hk=>hk) trivial (Below.refl _ _) (Nat.le_refl _) (by simp) ?_;(case hd=>rfl);(case hg=>rfl);(case hr=>first|(go_simp;done)|(go_simp;rfl));(case hp=>exact (Reps.none _ _));intro bG w3 ho4 hb hg_ hnew_;clear hg_ hnew_;(first|rw [← aJ.out] at ho4|(simp only [Int.reduceToNat] at ho4;rw [← aJ.out] at ho4));have aH:=ak_ (Kd.R_lower ho4 hz_);replace HB:=ak_ (below_step hb_ hb);clear hb ho4)|((with_reducible refine gate_dst (N:=13) rfl ?_);refine Kd.R_lit (Kd.int .i64) _ 3 ?hg (N:=13) ?hd (xs:=([]:List Int)) (inner:=[]) (ok:=fun _=>True) (okp:=fun _=>True) ?hr ?hp (fun _ hk=>hk) trivial (Below.refl _ _) (Nat.le_refl _) (by simp) ?_;(case hd=>rfl);(case hg=>rfl);(case hr=>first|(go_simp;done)|(go_simp;rfl));(case hp=>exact (Reps.none _ _));intro bH w5 ho6 hb hg_ hnew_;clear hg_ hnew_;(first|rw [← aK.out] at ho6|(simp only [Int.reduceToNat] at ho6;rw [← aK.out] at ho6));replace aH:=ak_ (Kd.R_below (ra_ aH) hb);have aX:=ak_ (Kd.R_lower ho6 hz_);replace HB:=ak_ (below_step hb_ hb);clear hb ho6)))
 go_loopg [6,7,8,9] k (fun kq v6 v7 v8 v9 w'=>∃ (aG:List ByteArray) (aE:List Int) (aC:Int) (aA:Int),v8=.int .i64 aC∧v9=.int .i64 aA∧Aside0 (i7_Pieces.l0 kq a0 a1 aG aE aC aA=some (r1,r2))∧Aside0 (kq≤k)∧Aside0 (Kd.R Kd.string 9 w' w.heap.size (fun _=>True) v6 aG)∧Aside0 (Kd.R (Kd.int .i64) 3 w' w.heap.size (fun _=>True) v7 aE)∧Aside0 (Below w.heap.size w w'))
 case atStart=>exact ⟨(aW),(bF),(0),(0),rr_,rr_,H',⟨Nat.le_refl _⟩,⟨by(with_reducible repeat (first|apply Kd.R_alloc|apply Kd.R_drewN|apply Kd.R_drew));exact aH.out⟩,⟨by(with_reducible repeat (first|apply Kd.R_alloc|apply Kd.R_drewN|apply Kd.R_drew));exact aX.out⟩,⟨hs_⟩⟩
 case round =>
  clear H';try clear p2
  try clear c5
  obtain⟨aG,aE,aC,aA,rfl,rfl,HA,HK1,HO_6,HO_7,HB⟩:=hrel;cases gk with
  |zero=>exact absurd HA.out (by simp [i7_Pieces.l0])
  | succ k1 =>
   have H:=HA.out;clear HA;simp only [i7_Pieces.l0] at H;by_cases c7:aA≤(a0.size:Int)
   ·rw [if_pos c7] at H
    have aY:decide (aA≤(a0.size:Int))=true:=decide_eq_true c7;clear c7;have H':=ak_ H;clear H
    go_wp2
    repeat (go_quiet (fail);try go_wp2)
    go_loopg [10,11] k1 (fun kq v10 v11 w'=>∃ (aM:Bool) (aD:Int),v10=.bool aM∧v11=.int .i64 aD∧Aside0 (i7_Pieces.l1 kq a0 a1 aG aE aC aA aM aD=some (r1,r2))∧Aside0 (kq≤k1)∧Aside0 (Kd.R Kd.string 9 w' w.heap.size (fun _=>True) u6 aG)∧Aside0 (Kd.R (Kd.int .i64) 3 w' w.heap.size (fun _=>True) u7 aE)∧Aside0 (Below w.heap.size w w'))
    case atStart=>exact ⟨((aA==(a0.size:Int))),(0),rr_,rr_,H',⟨Nat.le_refl _⟩,⟨by(with_reducible repeat (first|apply Kd.R_alloc|apply Kd.R_drewN|apply Kd.R_drew));exact HO_6.out⟩,⟨by(with_reducible repeat (first|apply Kd.R_alloc|apply Kd.R_drewN|apply Kd.R_drew));exact HO_7.out⟩,⟨hs_⟩⟩
    case round =>
     clear H';try clear p2
     try clear c5
     try clear c7
     try clear aY
     try clear p2
     obtain⟨aM,aD,rfl,rfl,HA,HK2,HO_6,HO_7,HB⟩:=hrel;cases gk with
     |zero=>exact absurd HA.out (by simp [i7_Pieces.l1])
     | succ k2 =>
      have H:=HA.out;clear HA;simp only [i7_Pieces.l1] at H;have HC8:=ak_ H;clear H
      go_upto_region 7 with (fail)
      repeat (go_quiet (fail);go_upto_region 7 with (fail))
      go_cut [31] (fun v31 wc=>∃ (kq:Nat) (aV:Bool),v31=.bool aV∧Aside0 (i7_Pieces.j2 kq a0 a1 aG aE aC aA aM aD aV=some (r1,r2))∧Aside0 (kq≤k2)∧Aside0 (Kd.R Kd.string 9 wc w.heap.size (fun _=>True) u6 aG)∧Aside0 (Kd.R (Kd.int .i64) 3 wc w.heap.size (fun _=>True) u7 aE)∧Aside0 (Below w.heap.size w wc))
      case first=>
       have H:=HC8.out;clear HC8;by_cases c9:aD<(a1.size:Int)
       ·rw [if_pos c9] at H
        have aN:decide (aD<(a1.size:Int))=true:=decide_eq_true c9;clear c9
        (first|rw [aN]|rw [bI]|rw [bJ]|(simp only [i64_w,i32_w];rw [aN])|skip)
        (try simp only [Bool.not_true,Bool.not_false])
        have H':=ak_ H;clear H
        go_wp2
        repeat (go_quiet (fail);try go_wp2)
        go_meet
        case rel=>exact ⟨_,(!aM),rr_,H',⟨by have:=HK1.out;have:=HK2.out;first|omega|exact Nat.le_refl _⟩,⟨by(with_reducible repeat (first|apply Kd.R_alloc|apply Kd.R_drewN|apply Kd.R_drew));exact HO_6.out⟩,⟨by(with_reducible repeat (first|apply Kd.R_alloc|apply Kd.R_drewN|apply Kd.R_drew));exact HO_7.out⟩,⟨hs_⟩⟩
       ·rw [if_neg c9] at H
        have aN:decide (aD<(a1.size:Int))=false:=decide_eq_false c9;clear c9
        (first|rw [aN]|rw [bI]|rw [bJ]|(simp only [i64_w,i32_w];rw [aN])|skip)
        (try simp only [Bool.not_true,Bool.not_false])
        have H':=ak_ H;clear H
        go_wp2
        repeat (go_quiet (fail);try go_wp2)
        go_meet
        case rel=>exact ⟨_,(false),rr_,H',⟨by have:=HK1.out;have:=HK2.out;first|omega|exact Nat.le_refl _⟩,⟨by(with_reducible repeat (first|apply Kd.R_alloc|apply Kd.R_drewN|apply Kd.R_drew));exact HO_6.out⟩,⟨by(with_reducible repeat (first|apply Kd.R_alloc|apply Kd.R_drewN|apply Kd.R_drew));exact HO_7.out⟩,⟨hs_⟩⟩
      case rest=>
       clear HC8;try clear p2
       try clear c5
       try clear c7
       try clear aY
       try clear c9
       try clear aN
       try clear bI
       try clear bJ
       try clear p2
       obtain⟨kq,aV,rfl,HA,HJ7,HO_6,HO_7,HB⟩:=hcut;cases kq with
       |zero=>exact absurd HA.out (by simp [i7_Pieces.j2])
       | succ kj7=>
        have H:=HA.out;clear HA;simp only [i7_Pieces.j2] at H;by_cases c10:aV=true
        ·subst c10
         replace H:=it_ H;by_cases c11:0≤aA
         ·rw [if_pos c11] at H
          have c11b0:decide (0≤aA)=true:=decide_eq_true c11;clear c11;by_cases c12:aA<(a0.size:Int)
          ·rw [if_pos c12] at H
           have c12b0:decide (aA<(a0.size:Int))=true:=decide_eq_true c12;clear c12;by_cases c14:0≤aD
           ·rw [if_pos c14] at H
            have c14b0:decide (0≤aD)=true:=decide_eq_true c14;clear c14;by_cases c15:aD<(a1.size:Int)
            ·rw [if_pos c15] at H
             have c15b0:decide (aD<(a1.size:Int))=true:=decide_eq_true c15;clear c15;have H':=ak_ H;clear H;have p13:0≤(aA:Int):=od_;have q13:aA<(a0.size:Int):=od_;have hx13:=bt_at a0 aA;replace p13:=eq_true p13;replace q13:=eq_true q13;have p16:0≤(aD:Int):=od_;have q16:aD<(a1.size:Int):=od_;have hx16:=bt_at a1 aD;replace p16:=eq_true p16;replace q16:=eq_true q16
             go_wp2
             repeat (go_quiet (fail);try go_wp2)
             go_roundg kj7
             case measure=>have:=HK1.out;have:=HK2.out;have:=HJ7.out;omega
             case rel=>exact ⟨(((bt a0 aA)==(bt a1 aD))),(wrap64 (aD+1)),rr_,rr_,H',⟨by have:=HK1.out;have:=HK2.out;have:=HJ7.out;omega⟩,⟨by(with_reducible repeat (first|apply Kd.R_alloc|apply Kd.R_drewN|apply Kd.R_drew));exact HO_6.out⟩,⟨by(with_reducible repeat (first|apply Kd.R_alloc|apply Kd.R_drewN|apply Kd.R_drew));exact HO_7.out⟩,⟨hs_⟩⟩
            ·rw [if_neg c15] at H
             exact absurd H (by simp)
           ·rw [if_neg c14] at H
            exact absurd H (by simp)
          ·rw [if_neg c12] at H
           exact absurd H (by simp)
         ·rw [if_neg c11] at H
          exact absurd H (by simp)
        ·replace c10:=Bool.eq_false_iff.mpr c10
         subst c10;replace H:=if_f_ H;by_cases c17:aM=true
         ·subst c17
          replace H:=it_ H;by_cases c18:0≤aC
          ·rw [if_pos c18] at H
           have c18b0:=eq_true c18;have c18b1:decide (0≤aC)=true:=decide_eq_true c18;clear c18;by_cases c19:aC≤aA
           ·rw [if_pos c19] at H
            have c19b0:=eq_true c19;have c19b1:decide (aC≤aA)=true:=decide_eq_true c19;clear c19;by_cases c20:aA≤(a0.size:Int)
            ·rw [if_pos c20] at H
             have c20b0:=eq_true c20;have c20b1:decide (aA≤(a0.size:Int))=true:=decide_eq_true c20;clear c20;by_cases c21:aG.length<8796093022208
             ·rw [if_pos c21] at H
              have aZ:=ak_ c21;clear c21;obtain⟨bA,aT⟩:∃ y_:List ByteArray,y_=(aG++[a0.extract (aC:Int).toNat (aA:Int).toNat]):=⟨_,rfl⟩;replace H:(if aE.length<17592186044416 then(i7_Pieces.l0 kj7 a0 a1 bA (aE++[aC]) (wrap64 (aA+1)) (wrap64 (aA+1))) else(none))=some (r1,r2):=by first|(rw [aT];with_reducible exact H)|(have H2_:=(Option.bind_some _ _).symm.trans H;rw [aT];with_reducible exact H2_)|(have H2_:=(Option.bind_some _ _).symm.trans H;with_reducible exact H2_)|with_reducible exact H|(rw [aT];exact H)|exact H
              have bB:=ak_ aT;clear aT;by_cases c22:aE.length<17592186044416
              ·rw [if_pos c22] at H
               have bC:=ak_ c22;clear c22;obtain⟨bK,aU⟩:∃ y_:List Int,y_=(aE++[aC]):=⟨_,rfl⟩;replace H:(i7_Pieces.l0 kj7 a0 a1 bA bK (wrap64 (aA+1)) (wrap64 (aA+1)))=some (r1,r2):=by first|(rw [aU];with_reducible exact H)|(have H2_:=(Option.bind_some _ _).symm.trans H;rw [aU];with_reducible exact H2_)|(have H2_:=(Option.bind_some _ _).symm.trans H;with_reducible exact H2_)|with_reducible exact H|(rw [aU];exact H)|exact H
               have bD:=ak_ aU;clear aU;have H':=ak_ H;clear H
               go_wp2_with (first|((with_reducible refine gate_builtin (b:=.append) (xs:=#[.tmp 42,.tmp 47]) rfl ?_);at_builtin;refine Kd.R_append Kd.string (w0:=w) w.heap.size rfl (.tmp 42) (.tmp 47) 22 9 (.string ⟨#[]⟩) 16 rfl Tryz.underlying22 info9 rfl (by decide) (by omega) u6 aG (a0.extract (aC:Int).toNat (aA:Int).toNat) [.string (a0.extract (aC:Int).toNat (aA:Int).toNat)] (fun _=>True) (fun _=>False) rfl rfl ?aP (fun _ hk=>hk.elim) ?aF ?aO ?aB ?aS ?aL ?_;(case aP=>exact rfl);(case aB=>exact hb_);(case aF=>exact (fun _ _=>trivial));(case aO=>exact (ra_ HO_6));(case aS=>exact hz_);(case aL=>have:=aZ.out;omega);intro bL w23 ho hb hg hat;rw [← bB.out] at ho;replace HO_7:=ak_ (Kd.R_over' (ra_ HO_7) (Kd.R_typed (ra_ HO_6)) (by decide) hg);replace HB:=ak_ (hb);have aI:=ak_ (ho);clear HO_6;clear ho hb hg hat)|((with_reducible refine gate_builtin (b:=.append) (xs:=#[.tmp 49,.tmp 51]) rfl ?_);at_builtin;refine Kd.R_append (Kd.int .i64) (w0:=w) w.heap.size rfl (.tmp 49) (.tmp 51) 73 3 (.int .i64 0) 8 rfl Tryz.underlying73 info3 rfl (by decide) (by omega) u7 aE aC [.int .i64 aC] (fun _=>True) (fun _=>False) rfl rfl ?aP (fun _ hk=>hk.elim) ?aF ?aO ?aB ?aS ?aL ?_;(case aP=>exact rfl);(case aB=>exact hb_);(case aF=>exact (fun _ _=>trivial));(case aO=>exact (ra_ HO_7));(case aS=>exact hz_);(case aL=>have:=bC.out;omega);intro bM w24 ho hb hg hat;rw [← bD.out] at ho;replace aI:=ak_ (Kd.R_over' (ra_ aI) (Kd.R_typed (ra_ HO_7)) (by decide) hg);replace HB:=ak_ (hb);have bE:=ak_ (ho);clear HO_7;clear ho hb hg hat))
               repeat (go_quiet (first|((with_reducible refine gate_builtin (b:=.append) (xs:=#[.tmp 42,.tmp 47]) rfl ?_);at_builtin;refine Kd.R_append Kd.string (w0:=w) w.heap.size rfl (.tmp 42) (.tmp 47) 22 9 (.string ⟨#[]⟩) 16 rfl Tryz.underlying22 info9 rfl (by decide) (by omega) u6 aG (a0.extract (aC:Int).toNat (aA:Int).toNat) [.string (a0.extract (aC:Int).toNat (aA:Int).toNat)] (fun _=>True) (fun _=>False) rfl rfl ?aP (fun _ hk=>hk.elim) ?aF ?aO ?aB ?aS ?aL ?_;(case aP=>exact rfl);(case aB=>exact hb_);(case aF=>exact (fun _ _=>trivial));(case aO=>exact (ra_ HO_6));(case aS=>exact hz_);(case aL=>have:=aZ.out;omega);intro bL w23 ho hb hg hat;rw [← bB.out] at ho;replace HO_7:=ak_ (Kd.R_over' (ra_ HO_7) (Kd.R_typed (ra_ HO_6)) (by decide) hg);replace HB:=ak_ (hb);have aI:=ak_ (ho);clear HO_6;clear ho hb hg hat)|((with_reducible refine gate_builtin (b:=.append) (xs:=#[.tmp 49,.tmp 51]) rfl ?_);at_builtin;refine Kd.R_append (Kd.int .i64) (w0:=w) w.heap.size rfl (.tmp 49) (.tmp 51) 73 3 (.int .i64 0) 8 rfl Tryz.underlying73 info3 rfl (by decide) (by omega) u7 aE aC [.int .i64 aC] (fun _=>True) (fun _=>False) rfl rfl ?aP (fun _ hk=>hk.elim) ?aF ?aO ?aB ?aS ?aL ?_;(case aP=>exact rfl);(case aB=>exact hb_);(case aF=>exact (fun _ _=>trivial));(case aO=>exact (ra_ HO_7));(case aS=>exact hz_);(case aL=>have:=bC.out;omega);intro bM w24 ho hb hg hat;rw [← bD.out] at ho;replace aI:=ak_ (Kd.R_over' (ra_ aI) (Kd.R_typed (ra_ HO_7)) (by decide) hg);replace HB:=ak_ (hb);have bE:=ak_ (ho);clear HO_7;clear ho hb hg hat));try go_wp2_with (first|((with_reducible refine gate_builtin (b:=.append) (xs:=#[.tmp 42,.tmp 47]) rfl ?_);at_builtin;refine Kd.R_append Kd.string (w0:=w) w.heap.size rfl (.tmp 42) (.tmp 47) 22 9 (.string ⟨#[]⟩) 16 rfl Tryz.underlying22 info9 rfl (by decide) (by omega) u6 aG (a0.extract (aC:Int).toNat (aA:Int).toNat) [.string (a0.extract (aC:Int).toNat (aA:Int).toNat)] (fun _=>True) (fun _=>False) rfl rfl ?aP (fun _ hk=>hk.elim) ?aF ?aO ?aB ?aS ?aL ?_;(case aP=>exact rfl);(case aB=>exact hb_);(case aF=>exact (fun _ _=>trivial));(case aO=>exact (ra_ HO_6));(case aS=>exact hz_);(case aL=>have:=aZ.out;omega);intro bL w23 ho hb hg hat;rw [← bB.out] at ho;replace HO_7:=ak_ (Kd.R_over' (ra_ HO_7) (Kd.R_typed (ra_ HO_6)) (by decide) hg);replace HB:=ak_ (hb);have aI:=ak_ (ho);clear HO_6;clear ho hb hg hat)|((with_reducible refine gate_builtin (b:=.append) (xs:=#[.tmp 49,.tmp 51]) rfl ?_);at_builtin;refine Kd.R_append (Kd.int .i64) (w0:=w) w.heap.size rfl (.tmp 49) (.tmp 51) 73 3 (.int .i64 0) 8 rfl Tryz.underlying73 info3 rfl (by decide) (by omega) u7 aE aC [.int .i64 aC] (fun _=>True) (fun _=>False) rfl rfl ?aP (fun _ hk=>hk.elim) ?aF ?aO ?aB ?aS ?aL ?_;(case aP=>exact rfl);(case aB=>exact hb_);(case aF=>exact (fun _ _=>trivial));(case aO=>exact (ra_ HO_7));(case aS=>exact hz_);(case aL=>have:=bC.out;omega);intro bM w24 ho hb hg hat;rw [← bD.out] at ho;replace aI:=ak_ (Kd.R_over' (ra_ aI) (Kd.R_typed (ra_ HO_7)) (by decide) hg);replace HB:=ak_ (hb);have bE:=ak_ (ho);clear HO_7;clear ho hb hg hat)))
               go_roundg kj7
               case measure=>have:=HK1.out;have:=HK2.out;have:=HJ7.out;omega
               case rel=>exact ⟨(bA),(bK),(wrap64 (aA+1)),(wrap64 (aA+1)),rr_,rr_,H',⟨by have:=HK1.out;have:=HK2.out;have:=HJ7.out;omega⟩,⟨by(with_reducible repeat (first|apply Kd.R_alloc|apply Kd.R_drewN|apply Kd.R_drew));exact aI.out⟩,⟨by(with_reducible repeat (first|apply Kd.R_alloc|apply Kd.R_drewN|apply Kd.R_drew));exact bE.out⟩,⟨hs_⟩⟩
              ·rw [if_neg c22] at H
               exact absurd H (by simp)
             ·rw [if_neg c21] at H
              exact absurd H (by simp)
            ·rw [if_neg c20] at H
             exact absurd H (by simp)
           ·rw [if_neg c19] at H
            exact absurd H (by simp)
          ·rw [if_neg c18] at H
           exact absurd H (by simp)
         ·replace c17:=Bool.eq_false_iff.mpr c17
          subst c17;replace H:=if_f_ H;have H':=ak_ H;clear H
          go_wp2
          repeat (go_quiet (fail);try go_wp2)
          go_roundg kj7
          case measure=>have:=HK1.out;have:=HK2.out;have:=HJ7.out;omega
          case rel=>exact ⟨(aG),(aE),(aC),(wrap64 (aA+1)),rr_,rr_,H',⟨by have:=HK1.out;have:=HK2.out;have:=HJ7.out;omega⟩,⟨by(with_reducible repeat (first|apply Kd.R_alloc|apply Kd.R_drewN|apply Kd.R_drew));exact HO_6.out⟩,⟨by(with_reducible repeat (first|apply Kd.R_alloc|apply Kd.R_drewN|apply Kd.R_drew));exact HO_7.out⟩,⟨hs_⟩⟩
   ·rw [if_neg c7] at H
    have aY:decide (aA≤(a0.size:Int))=false:=decide_eq_false c7;clear c7;simp only [Option.some.injEq,Prod.mk.injEq] at H;obtain⟨rfl,rfl⟩:=H
    go_wp2
    repeat (go_quiet (fail);try go_wp2)
    go_ret2
    exact⟨_,_,re_,by(with_reducible repeat (first|apply Kd.R_alloc|apply Kd.R_drewN|apply Kd.R_drew));exact HO_6.out,by(with_reducible repeat (first|apply Kd.R_alloc|apply Kd.R_drewN|apply Kd.R_drew));exact HO_7.out,hs_⟩
def i7_value.l0:Nat→ByteArray→List ByteArray→Int→Option (Bool)
 |0,_,_,_=>none
 |k+1,x0,x3,x5=>if x5<(x3.length:Int) then(if 0≤x5 then((i7_signs.f k (rdOf ByteArray.empty x3 x5) 3 8).bind fun aE=>(if aE=true then(i7_value.l0 k x0 x3 (wrap64 (x5+1))) else(some false))) else(none)) else(if x0.toList=([116,114,117,101]:List UInt8) then(some false) else((i7_Small.f x0).bind fun aF=>(some (aF.toList==x0.toList))))
def i7_value.f (k:Nat) (a0:ByteArray):Option (Bool):=if a0.toList=([]:List UInt8) then(some true) else((i7_Pieces.f k a0 (⟨#[45]⟩:ByteArray)).bind fun aG=>(i7_value.l0 k a0 aG.1 0))
set_option maxHeartbeats 8000000 in
set_option maxRecDepth 100000 in
theorem i7_value.calls (k:Nat) (a0:ByteArray) (r:Bool) (w:World) (h:i7_value.f k a0=some r):
 Calls Tryz.prog 36 #[.string a0] w fun e w'=>e=.returned (.bool r)∧Below w.heap.size w w':=by
 have HB:=ak_ (Below.refl w.heap.size w);have H:(if a0.toList=([]:List UInt8) then(some true) else((i7_Pieces.f k a0 (⟨#[45]⟩:ByteArray)).bind fun aG=>(i7_value.l0 k a0 aG.1 0)))=some r:=h;clear h;by_cases c2:a0.toList=([]:List UInt8)
 ·rw [if_pos c2] at H
  have aI:(a0.toList==([]:List UInt8))=true:=beq_iff_eq.mpr c2;have aJ:(a0.toList != ([]:List UInt8))=false:=bne_eq_false_iff_eq.mpr c2;have aK:a0.toList.isEmpty=true:=List.isEmpty_iff.mpr c2;clear c2;obtain rfl:=Option.some.inj H
  go_enter Tryz.func36,Tryz.ntmps36
  go_wp2
  go_ret
  exact⟨by first|rfl|(simp [errW_none,errW_some] <;> rfl)|(simp [*,errW_none,errW_some] <;> rfl),by repeat (first|(with_reducible first|exact HB.out|apply below_alloc|apply pw_below_drewN|apply below_drew1)|exact HB.out)⟩
 ·rw [if_neg c2] at H
  have aI:(a0.toList==([]:List UInt8))=false:=beq_eq_false_iff_ne.mpr c2;have aJ:(a0.toList != ([]:List UInt8))=true:=bne_iff_ne.mpr c2;have aK:a0.toList.isEmpty=false:=List.isEmpty_eq_false_iff.mpr c2;replace H:=Option.bind_eq_some_iff.mp H;obtain⟨⟨aB,aM⟩,A30,H⟩:=H;try dsimp only at H
  have A3:=ak_ A30;clear A30;have H':=ak_ H;clear H
  go_enter Tryz.func36,Tryz.ntmps36
  go_wp2_with (first|((with_reducible refine gate_callee (f:=51) rfl ?_);refine gb_ (some 10) Tryz.func51 #[.string a0,.string (⟨#[45]⟩:ByteArray)] ?_;(with_reducible refine(i7_Pieces.calls k a0 (⟨#[45]⟩:ByteArray) aB aM _ A3.out).mono ?_);rintro e w4 ⟨aN,v132,rfl,ho0,ho1,hb⟩;refine⟨_,rfl,?_⟩;have aO:=ak_ (Kd.R_lower ho0 hz_);have HO133:=ak_ (Kd.R_lower ho1 hz_);replace HB:=ak_ (below_step hb_ hb);(try clear hb);(try clear hb2);(try clear hk);(try clear hi);(try clear ho0);(try clear ho1)))
  go_loopg [5] k (fun kq v5 w'=>∃ (aA:Int),v5=.int .i64 aA∧Aside0 (i7_value.l0 kq a0 aB aA=some r)∧Aside0 (kq≤k)∧Aside0 (Kd.R Kd.string 9 w' w.heap.size (fun _=>True) aN aB)∧Aside0 (Below w.heap.size w w'))
  case atStart=>exact ⟨(0),(by first|rfl|(simp;done)|(simp [*];done)),H',⟨Nat.le_refl _⟩,⟨by(with_reducible repeat (first|apply Kd.R_alloc|apply Kd.R_drewN|apply Kd.R_drew));exact aO.out⟩,⟨by repeat (first|(with_reducible first|exact HB.out|apply below_alloc|apply pw_below_drewN|apply below_drew1)|exact HB.out)⟩⟩
  case round=>
   clear H';try clear c2
   try clear aI
   try clear aJ
   try clear aK
   try clear p2
   try clear c3
   obtain⟨aA,rfl,HA,HK1,HO_3,HB⟩:=hrel;cases gk with
   |zero=>exact absurd HA.out (by simp [i7_value.l0])
   | succ k1=>
    have H:=HA.out;clear HA;simp only [i7_value.l0] at H;by_cases c5:aA<(aB.length:Int)
    ·rw [if_pos c5] at H
     have aP:decide (aA<(aB.length:Int))=true:=decide_eq_true c5;clear c5;by_cases c6:0≤aA
     ·rw [if_pos c6] at H
      have c6b0:decide (0≤aA)=true:=decide_eq_true c6;clear c6;replace H:=Option.bind_eq_some_iff.mp H;obtain⟨aE,A70,H⟩:=H;try dsimp only at H
      have A7:=ak_ A70;clear A70;by_cases c8:aE=true
      ·subst c8
       have H1:(i7_value.l0 k1 a0 aB (wrap64 (aA+1)))=some r:=by rw [if_pos rfl] at H;exact H
       clear H;have H:=H1;clear H1;have H':=ak_ H;clear H;obtain⟨Ao9,co9,eo9⟩:=Kd.R_slice HO_3.out;subst eo9;have aC:0≤(aA:Int):=of_decide_eq_true (by first|(with_reducible assumption)|assumption)
       have aD:aA<(aB.length:Int):=of_decide_eq_true (by first|(with_reducible assumption)|assumption)
       obtain⟨aQ,aH,aR⟩:=Kd.at_string (Kd.R_reads' HO_3.out).2.2 aA aC aD;cases aH;replace aC:=eq_true aC;replace aD:=eq_true aD
       go_wp2_with (first|((with_reducible refine gate_callee (f:=35) rfl ?_);refine gb_ (some 23) Tryz.func35 #[.string (rdOf ByteArray.empty aB aA),.int .i64 3,.int .i64 8] ?_;(with_reducible refine(i7_signs.calls k1 (rdOf ByteArray.empty aB aA) 3 8 true _ A7.out).mono ?_);rintro e w' ⟨rfl,⟨nd,rfl⟩⟩;refine⟨_,rfl,?_⟩))
       go_roundg k1
       case measure=>have:=HK1.out;omega
       case rel=>exact ⟨(wrap64 (aA+1)),(by first|rfl|(simp;done)|(simp [*];done)),H',⟨by have:=HK1.out;omega⟩,⟨by(with_reducible repeat (first|apply Kd.R_alloc|apply Kd.R_drewN|apply Kd.R_drew));exact HO_3.out⟩,⟨by repeat (first|(with_reducible first|exact HB.out|apply below_alloc|apply pw_below_drewN|apply below_drew1)|exact HB.out)⟩⟩
      ·replace c8:=Bool.eq_false_iff.mpr c8
       subst c8;have H1:(some false)=some r:=by rw [if_neg (show ¬ (false=true) by decide)] at H;exact H
       clear H;have H:=H1;clear H1;obtain rfl:=Option.some.inj H;obtain⟨Ao10,co10,aS⟩:=Kd.R_slice HO_3.out;subst aS;have aC:0≤(aA:Int):=of_decide_eq_true (by first|(with_reducible assumption)|assumption)
       have aD:aA<(aB.length:Int):=of_decide_eq_true (by first|(with_reducible assumption)|assumption)
       obtain⟨aQ,aH,aR⟩:=Kd.at_string (Kd.R_reads' HO_3.out).2.2 aA aC aD;cases aH;replace aC:=eq_true aC;replace aD:=eq_true aD
       go_wp2_with (first|((with_reducible refine gate_callee (f:=35) rfl ?_);refine gb_ (some 23) Tryz.func35 #[.string (rdOf ByteArray.empty aB aA),.int .i64 3,.int .i64 8] ?_;(with_reducible refine(i7_signs.calls k1 (rdOf ByteArray.empty aB aA) 3 8 false _ A7.out).mono ?_);rintro e w' ⟨rfl,⟨nd,rfl⟩⟩;refine⟨_,rfl,?_⟩))
       go_ret
       exact⟨by first|rfl|(simp [errW_none,errW_some] <;> rfl)|(simp [*,errW_none,errW_some] <;> rfl),by repeat (first|(with_reducible first|exact HB.out|apply below_alloc|apply pw_below_drewN|apply below_drew1)|exact HB.out)⟩
     ·rw [if_neg c6] at H
      exact absurd H (by simp)
    ·rw [if_neg c5] at H
     have aP:decide (aA<(aB.length:Int))=false:=decide_eq_false c5;clear c5;by_cases c11:a0.toList=([116,114,117,101]:List UInt8)
     ·rw [if_pos c11] at H
      have aT:(a0.toList==([116,114,117,101]:List UInt8))=true:=beq_iff_eq.mpr c11;have aU:(a0.toList != ([116,114,117,101]:List UInt8))=false:=bne_eq_false_iff_eq.mpr c11;clear c11;obtain rfl:=Option.some.inj H;obtain⟨Ao12,co12,aV⟩:=Kd.R_slice HO_3.out;subst aV
      go_wp2
      go_ret
      exact⟨by first|rfl|(simp [errW_none,errW_some] <;> rfl)|(simp [*,errW_none,errW_some] <;> rfl),by repeat (first|(with_reducible first|exact HB.out|apply below_alloc|apply pw_below_drewN|apply below_drew1)|exact HB.out)⟩
     ·rw [if_neg c11] at H
      have aT:(a0.toList==([116,114,117,101]:List UInt8))=false:=beq_eq_false_iff_ne.mpr c11;have aU:(a0.toList != ([116,114,117,101]:List UInt8))=true:=bne_iff_ne.mpr c11;replace H:=Option.bind_eq_some_iff.mp H;obtain⟨aF,aL,H⟩:=H;try dsimp only at H
      have A13:=ak_ aL;clear aL;obtain rfl:=Option.some.inj H;obtain⟨Ao14,co14,aW⟩:=Kd.R_slice HO_3.out;subst aW
      go_wp2_with (first|(go_at_call 29;(with_reducible refine(i7_Small.calls a0 aF _ A13.out).mono ?_);rintro e w15 ⟨rfl,hb⟩;replace HO_3:=ak_ (Kd.R_below (ra_ HO_3) hb);replace HB:=ak_ (below_step hb_ hb);(try clear hb);(try clear hb2);(try clear hk);(try clear hi)))
      go_ret
      exact⟨by first|rfl|(simp [errW_none,errW_some] <;> rfl)|(simp [*,errW_none,errW_some] <;> rfl),by repeat (first|(with_reducible first|exact HB.out|apply below_alloc|apply pw_below_drewN|apply below_drew1)|exact HB.out)⟩
def i7_Root.f (k:Nat) (aD:ByteArray) (aE:ByteArray) (aF:ByteArray) (aA:List ByteArray) (aB:List (S39)):Option (Bool):=(i7_text.f k aD aE aF aA aB).bind fun aL=>(some (aL.toList==([117,110,100]:List UInt8)))
set_option maxHeartbeats 8000000 in
set_option maxRecDepth 100000 in
theorem i7_Root.calls (k:Nat) (aD:ByteArray) (aE:ByteArray) (aF:ByteArray) (aH:Option Addr) (aI:Nat) (aA:List ByteArray) (aJ:Option Addr) (aK:Nat) (aB:List (S39)) (r:Bool) (w:World) (hr0_3:Kd.C Kd.string w aH aA.length aA) (hc0_3:aA.length≤aI) (hr0_4:Kd.C k39 w aJ aB.length aB) (hc0_4:aB.length≤aK) (h:i7_Root.f k aD aE aF aA aB=some r):
 Calls Tryz.prog 14 #[.agg #[.string aD,.string aE,.string aF,.slice aH aA.length aI,.slice aJ aB.length aK]] w fun e w'=>e=.returned (.bool r)∧Below w.heap.size w w':=by
 have hu25:=Tryz.underlying25;have aN:=ak_ hr0_3;have aO:=ak_ hc0_3;clear hr0_3 hc0_3;have aP:=ak_ hr0_4;have aQ:=ak_ hc0_4;clear hr0_4 hc0_4;have HB:=ak_ (Below.refl w.heap.size w);have H:((i7_text.f k aD aE aF aA aB).bind fun aL=>(some (aL.toList==([117,110,100]:List UInt8))))=some r:=h;clear h;replace H:=Option.bind_eq_some_iff.mp H;obtain⟨aL,A20,H⟩:=H;try dsimp only at H
 have A2:=ak_ A20;clear A20;obtain rfl:=Option.some.inj H
 go_enter Tryz.func14,Tryz.ntmps14
 go_wp2_with (first|((with_reducible refine gate_dst (N:=1) rfl ?_);refine box_event ?hg (N:=1) ?hd (cs:=#[.string aD,.string aE,.string aF,.slice aH aA.length aI,.slice aJ aB.length aK]) (t:=25) ?hr ?_;(case hd=>rfl);(case hg=>rfl);(case hr=>first|(go_simp;done)|(go_simp;rfl));intro aG hg w3 hbox hb;have aC:=ak_ (hbox);have GW276:=ak_ ((by rw [hg];exact hz_:w.heap.size≤aG));have aM:=ak_ ((by rw [hg];exact hz_:w.heap.size≤aG));replace HB:=ak_ (below_step hb_ hb);clear hb hbox hg;have aR:w3.cell? ⟨aG,0,none⟩=some (.string aD):=(blk_cell aC.out 0).trans rfl;have aS:w3.cell? ⟨aG,1,none⟩=some (.string aE):=(blk_cell aC.out 1).trans rfl;have aT:w3.cell? ⟨aG,2,none⟩=some (.string aF):=(blk_cell aC.out 2).trans rfl;have aU:w3.cell? ⟨aG,3,none⟩=some (.slice aH aA.length aI):=(blk_cell aC.out 3).trans rfl;have aV:w3.cell? ⟨aG,4,none⟩=some (.slice aJ aB.length aK):=(blk_cell aC.out 4).trans rfl;have aW:=blk_frozen aC.out 0;have aX:=blk_frozen aC.out 1;have aY:=blk_frozen aC.out 2;have aZ:=blk_frozen aC.out 3;have bA:=blk_frozen aC.out 4)|((with_reducible refine gate_callee (f:=37) rfl ?_);refine gb_ (some 4) Tryz.func37 #[.agg #[.string aD,.string aE,.string aF,.slice aH aA.length aI,.slice aJ aB.length aK]] ?_;(with_reducible refine(i7_text.calls k aD aE aF _ _ aA _ _ aB aL _ ?side1 ?side2 ?side3 ?side4 A2.out).mono ?_);(case side1=>repeat (first|exact(Kd.C_below aN.out HB.out)|(with_reducible refine Kd.C_alloc ?_ _)|(with_reducible refine Kd.C_drewN ?_ _)|(with_reducible refine Kd.C_drew ?_)));(case side2=>exact aO.out);(case side3=>repeat (first|exact(Kd.C_below aP.out HB.out)|(with_reducible refine Kd.C_alloc ?_ _)|(with_reducible refine Kd.C_drewN ?_ _)|(with_reducible refine Kd.C_drew ?_)));(case side4=>exact aQ.out);rintro e w5 ⟨rfl,hb⟩;refine⟨_,rfl,?_⟩;replace aC:=ak_ (blk_below (g:=aG) (o:=.cells #[.string aD,.string aE,.string aF,.slice aH aA.length aI,.slice aJ aB.length aK] 25 (0,0)) (bk_ aC) hb);replace HB:=ak_ (below_step (by repeat (first|(with_reducible first|exact HB.out|apply below_alloc|apply pw_below_drewN|apply below_drew1|refine below_set ?_ aM.out)|exact HB.out)) hb);(try clear hb);(try clear hb2);(try clear hk);(try clear hi)))
 go_ret
 exact⟨by first|rfl|(simp [errW_none,errW_some] <;> rfl)|(simp [*,errW_none,errW_some] <;> rfl),by repeat (first|(with_reducible first|exact HB.out|apply below_alloc|apply pw_below_drewN|apply below_drew1|refine below_set ?_ aM.out)|exact HB.out)⟩
end Go.Proofs.YtphjhbppjakocaaGreatDoor.PTag
