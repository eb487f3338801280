/- Several texts of this claim in one: QCopied, PU4, PU9, PU10; conditions: those that each theorem states. -/
import Derived.Test.YtphjhbppjakocaaGreatDoorWInv
import Derived.Test.YtphjhbppjakocaaGreatDoorWN
set_option linter.unusedVariables false
set_option linter.unusedSimpArgs false
namespace Go.Proofs.YtphjhbppjakocaaGreatDoor.PTag
open Go.RowKit Go.Proofs.YtphjhbppjakocaaGreatDoorW.PrintWords Go.Proofs.YtphjhbppjakocaaGreatDoorW.PrintLast Go.Proofs.YtphjhbppjakocaaGreatDoorW.PrintMore
attribute [local go_sem] max2_int min2_int max_two min_two max_three min_three max_four min_four
attribute [local go_sem] setCell_drewN_ cell_put_twice_ gtr_less_
def tag_copied.f (aC:ByteArray) (aE:ByteArray) (aF:ByteArray) (aH:List ByteArray) (aG:List (S39)):Option (ByteArray×ByteArray×ByteArray×List ByteArray×(List (S39))):=(slices_Clone_string_string.f aH).bind fun aL=>((api_Key_86.f aG).bind fun aO=>(some (aC,aE,aF,aL,aO)))
set_option maxHeartbeats 8000000 in
set_option maxRecDepth 100000 in
theorem tag_copied.calls (aC:ByteArray) (aE:ByteArray) (aF:ByteArray) (aM:Option Addr) (aN:Nat) (aH:List ByteArray) (aJ:Option Addr) (aK:Nat) (aG:List (S39)) (r1:ByteArray) (r2:ByteArray) (r3:ByteArray) (r4:List ByteArray) (r5:List (S39)) (w:World) (hr0_3:Kd.C Kd.string w aM aH.length aH) (hc0_3:aH.length≤aN) (hr0_4:Kd.C k39 w aJ aG.length aG) (hc0_4:aG.length≤aK) (h:tag_copied.f aC aE aF aH aG=some (r1,r2,r3,r4,r5)):
 Calls Tryz.prog 62 #[.agg #[.string aC,.string aE,.string aF,.slice aM aH.length aN,.slice aJ aG.length aK]] w fun e w'=>∃ v3_ v4_:Value,e=.returned (.agg #[.string r1,.string r2,.string r3,v3_,v4_])∧Kd.R Kd.string 9 w' w.heap.size (fun _=>True) v3_ r4∧Kd.R k39 39 w' w.heap.size (fun _=>True) v4_ r5∧Below w.heap.size w w':=by
 have hu25:=Tryz.underlying25;have aW:=ak_ hr0_3;have aX:=ak_ hc0_3;clear hr0_3 hc0_3;have aY:=ak_ hr0_4;have aZ:=ak_ hc0_4;clear hr0_4 hc0_4;have HB:=ak_ (Below.refl w.heap.size w);have H:((slices_Clone_string_string.f aH).bind fun aL=>((api_Key_86.f aG).bind fun aO=>(some (aC,aE,aF,aL,aO))))=some (r1,r2,r3,r4,r5):=h;clear h;replace H:=Option.bind_eq_some_iff.mp H;obtain⟨aL,A20,H⟩:=H;try dsimp only at H
 have A2:=ak_ A20;clear A20;replace H:=Option.bind_eq_some_iff.mp H;obtain⟨aO,A30,H⟩:=H;try dsimp only at H
 have A3:=ak_ A30;clear A30;simp only [Option.some.injEq,Prod.mk.injEq] at H;obtain⟨rfl,rfl,rfl,rfl,rfl⟩:=H
 go_enter Tryz.func62,Tryz.ntmps62
 go_wp2_with (first|((with_reducible refine gate_dst (N:=1) rfl ?_);refine box_event ?hg (N:=1) ?hd (cs:=#[.string aC,.string aE,.string aF,.slice aM aH.length aN,.slice aJ aG.length aK]) (t:=25) ?hr ?_;(case hd=>rfl);(case hg=>rfl);(case hr=>first|(go_simp;done)|(go_simp;rfl));intro aB hg w4 hbox hb;have aA:=ak_ (hbox);have GW175:=ak_ ((by rw [hg];exact hz_:w.heap.size≤aB));have aP:=ak_ ((by rw [hg];exact hz_:w.heap.size≤aB));replace HB:=ak_ (below_step hb_ hb);clear hb hbox hg)|((with_reducible refine gate_dst (N:=2) rfl ?_);refine box_event ?hg (N:=2) ?hd (cs:=#[.string ⟨#[]⟩,.string ⟨#[]⟩,.string ⟨#[]⟩,.slice none 0 0,.slice none 0 0]) (t:=25) ?hr ?_;(case hd=>rfl);(case hg=>rfl);(case hr=>first|(go_simp;done)|(go_simp;rfl));intro aD hg w5 hbox hb;have aI:=ak_ (hbox);have GW176:=ak_ ((by rw [hg];exact(below_size (by repeat (first|(with_reducible first|exact HB.out|apply below_alloc|apply pw_below_drewN|apply below_drew1|refine below_set ?_ aP.out)|exact HB.out))):w.heap.size≤aD));have aQ:=ak_ ((by rw [hg];exact(below_size (by repeat (first|(with_reducible first|exact HB.out|apply below_alloc|apply pw_below_drewN|apply below_drew1|refine below_set ?_ aP.out)|exact HB.out))):w.heap.size≤aD));replace HB:=ak_ (below_step (by repeat (first|(with_reducible first|exact HB.out|apply below_alloc|apply pw_below_drewN|apply below_drew1|refine below_set ?_ aP.out)|exact HB.out)) hb);have bA:=ak_ ((by rw [hg];exact Nat.ne_of_lt (blk_lt (g:=aB) (o:=.cells #[.string aC,.string aE,.string aF,.slice aM aH.length aN,.slice aJ aG.length aK] 25 (0,0)) (bk_ aA)):aB≠aD));have aU:=ak_ ((by rw [hg];exact Nat.ne_of_gt (blk_lt (g:=aB) (o:=.cells #[.string aC,.string aE,.string aF,.slice aM aH.length aN,.slice aJ aG.length aK] 25 (0,0)) (bk_ aA)):aD≠aB));replace aA:=ak_ (blk_below (g:=aB) (o:=.cells #[.string aC,.string aE,.string aF,.slice aM aH.length aN,.slice aJ aG.length aK] 25 (0,0)) (bk_ aA) hb);clear hb hbox hg;have hnb6:=bA.out;have hnc6:=aU.out;have bC:w5.cell? ⟨aB,0,none⟩=some (.string aC):=(blk_cell aA.out 0).trans rfl;have bD:w5.cell? ⟨aB,1,none⟩=some (.string aE):=(blk_cell aA.out 1).trans rfl;have bE:w5.cell? ⟨aB,2,none⟩=some (.string aF):=(blk_cell aA.out 2).trans rfl;have bF:w5.cell? ⟨aB,3,none⟩=some (.slice aM aH.length aN):=(blk_cell aA.out 3).trans rfl;have bG:w5.cell? ⟨aB,4,none⟩=some (.slice aJ aG.length aK):=(blk_cell aA.out 4).trans rfl;have bH:=blk_frozen aA.out 0;have bI:=blk_frozen aA.out 1;have bJ:=blk_frozen aA.out 2;have bK:=blk_frozen aA.out 3;have bL:=blk_frozen aA.out 4)|((with_reducible refine gate_callee (f:=85) rfl ?_);refine gb_ (some 5) Tryz.func85 #[.slice aM aH.length aN] ?_;(with_reducible refine(slices_Clone_string_string.calls _ _ aH aL _ ?side1 ?side2 A2.out).mono ?_);(case side1=>repeat (first|exact(Kd.C_below aW.out HB.out)|(with_reducible refine Kd.C_alloc ?_ _)|(with_reducible refine Kd.C_drewN ?_ _)|(with_reducible refine Kd.C_drew ?_)));(case side2=>exact aX.out);rintro e w8 ⟨v178,rfl,ho0,hb⟩;refine⟨_,rfl,?_⟩;have aT:=ak_ (Kd.R_lower ho0 (below_size (by repeat (first|(with_reducible first|exact HB.out|apply below_alloc|apply pw_below_drewN|apply below_drew1|refine below_set ?_ aP.out|refine below_set ?_ aQ.out)|exact HB.out))));replace aA:=ak_ (blk_below (g:=aB) (o:=.cells #[.string aC,.string aE,.string aF,.slice aM aH.length aN,.slice aJ aG.length aK] 25 (0,0)) (bk_ aA) hb);replace aI:=ak_ (blk_below (g:=aD) (o:=.cells #[.string ⟨#[]⟩,.string ⟨#[]⟩,.string ⟨#[]⟩,.slice none 0 0,.slice none 0 0] 25 (0,0)) (bk_ aI) hb);replace HB:=ak_ (below_step (by repeat (first|(with_reducible first|exact HB.out|apply below_alloc|apply pw_below_drewN|apply below_drew1|refine below_set ?_ aP.out|refine below_set ?_ aQ.out)|exact HB.out)) hb);(try clear hb);(try clear hb2);(try clear hk);(try clear hi);(try clear ho0);obtain⟨Ao9,co9,eo9⟩:=Kd.R_slice aT.out;subst eo9;have bM:w8.cell? ⟨aB,0,none⟩=some (.string aC):=(blk_cell aA.out 0).trans rfl;have bN:w8.cell? ⟨aB,1,none⟩=some (.string aE):=(blk_cell aA.out 1).trans rfl;have bO:w8.cell? ⟨aB,2,none⟩=some (.string aF):=(blk_cell aA.out 2).trans rfl;have bP:w8.cell? ⟨aB,3,none⟩=some (.slice aM aH.length aN):=(blk_cell aA.out 3).trans rfl;have bQ:w8.cell? ⟨aB,4,none⟩=some (.slice aJ aG.length aK):=(blk_cell aA.out 4).trans rfl;have bR:=blk_frozen aA.out 0;have bS:=blk_frozen aA.out 1;have bT:=blk_frozen aA.out 2;have bU:=blk_frozen aA.out 3;have bV:=blk_frozen aA.out 4)|((with_reducible refine gate_callee (f:=86) rfl ?_);refine gb_ (some 9) Tryz.func86 #[.slice aJ aG.length aK] ?_;(with_reducible refine(api_Key_86.calls _ _ aG aO _ ?side1 ?side2 A3.out).mono ?_);(case side1=>exact Kd.C_below aY.out (by repeat (first|(with_reducible first|exact HB.out|apply below_alloc|apply pw_below_drewN|apply below_drew1|refine below_set ?_ aP.out|refine below_set ?_ aQ.out)|exact HB.out)));(case side2=>exact aZ.out);rintro e w11 ⟨v181,rfl,ho0,hb⟩;refine⟨_,rfl,?_⟩;replace aT:=ak_ (Kd.R_below (by(with_reducible repeat (first|apply Kd.R_alloc|apply Kd.R_drewN|apply Kd.R_drew));exact(Kd.R_mono (Kd.R_far (p:=⟨aB,3,none⟩) (Kd.R_types aT.out aA.out (by decide)) (fun _ hk=>hk.2) (.slice Ao9 aL.length co9)) (fun _ h_=>h_.1))) hb);have aV:=ak_ (Kd.R_lower ho0 (below_size (by repeat (first|(with_reducible first|exact HB.out|apply below_alloc|apply pw_below_drewN|apply below_drew1|refine below_set ?_ aP.out|refine below_set ?_ aQ.out)|exact HB.out))));replace aA:=ak_ (blk_below (g:=aB) (o:=.cells #[.string aC,.string aE,.string aF,.slice Ao9 aL.length co9,.slice aJ aG.length aK] 25 (0,0)) (by refine blk_put (cs:=#[.string aC,.string aE,.string aF,.slice aM aH.length aN,.slice aJ aG.length aK]) ?_ 3 _ (by first|rfl|simp);(with_reducible repeat (first|refine blk_drewN ?_ _|refine blk_drew ?_|refine blk_alloc ?_ _));exact aA.out) hb);replace aI:=ak_ (blk_below (g:=aD) (o:=.cells #[.string ⟨#[]⟩,.string ⟨#[]⟩,.string ⟨#[]⟩,.slice none 0 0,.slice none 0 0] 25 (0,0)) (by refine blk_far ?_ aU.out _;(with_reducible repeat (first|refine blk_drewN ?_ _|refine blk_drew ?_|refine blk_alloc ?_ _));exact aI.out) hb);replace HB:=ak_ (below_step (by repeat (first|(with_reducible first|exact HB.out|apply below_alloc|apply pw_below_drewN|apply below_drew1|refine below_set ?_ aP.out|refine below_set ?_ aQ.out)|exact HB.out)) hb);(try clear hb);(try clear hb2);(try clear hk);(try clear hi);(try clear ho0);obtain⟨aR,aS,bB⟩:=Kd.R_slice aV.out;subst bB;have bW:w11.cell? ⟨aB,0,none⟩=some (.string aC):=(blk_cell aA.out 0).trans rfl;have bX:w11.cell? ⟨aB,1,none⟩=some (.string aE):=(blk_cell aA.out 1).trans rfl;have bY:w11.cell? ⟨aB,2,none⟩=some (.string aF):=(blk_cell aA.out 2).trans rfl;have bZ:w11.cell? ⟨aB,3,none⟩=some (.slice Ao9 aL.length co9):=(blk_cell aA.out 3).trans rfl;have cA:w11.cell? ⟨aB,4,none⟩=some (.slice aJ aG.length aK):=(blk_cell aA.out 4).trans rfl;have cB:=blk_frozen aA.out 0;have cC:=blk_frozen aA.out 1;have cD:=blk_frozen aA.out 2;have cE:=blk_frozen aA.out 3;have cF:=blk_frozen aA.out 4;have cG:w11.cell? ⟨aD,0,none⟩=some (.string ⟨#[]⟩):=(blk_cell aI.out 0).trans rfl;have cH:w11.cell? ⟨aD,1,none⟩=some (.string ⟨#[]⟩):=(blk_cell aI.out 1).trans rfl;have cI:w11.cell? ⟨aD,2,none⟩=some (.string ⟨#[]⟩):=(blk_cell aI.out 2).trans rfl;have cJ:w11.cell? ⟨aD,3,none⟩=some (.slice none 0 0):=(blk_cell aI.out 3).trans rfl;have cK:w11.cell? ⟨aD,4,none⟩=some (.slice none 0 0):=(blk_cell aI.out 4).trans rfl;have cL:=blk_frozen aI.out 0;have cM:=blk_frozen aI.out 1;have cN:=blk_frozen aI.out 2;have cO:=blk_frozen aI.out 3;have cP:=blk_frozen aI.out 4))
 refine bodyPost_ret (results_cell_row rfl _ _ aD 25 #[.string aC,.string aE,.string aF,.slice Ao9 aL.length co9,.slice aR aO.length aS] (0,0) _ rfl (by refine blk_put (cs:=#[.string aC,.string aE,.string aF,.slice Ao9 aL.length co9,.slice none 0 0]) ?_ 4 _ rfl;refine blk_put (cs:=#[.string aC,.string aE,.string aF,.slice none 0 0,.slice none 0 0]) ?_ 3 _ (by first|rfl|simp);refine blk_put (cs:=#[.string aC,.string aE,.string ⟨#[]⟩,.slice none 0 0,.slice none 0 0]) ?_ 2 _ rfl;refine blk_put (cs:=#[.string aC,.string ⟨#[]⟩,.string ⟨#[]⟩,.slice none 0 0,.slice none 0 0]) ?_ 1 _ rfl;refine blk_put (cs:=#[.string ⟨#[]⟩,.string ⟨#[]⟩,.string ⟨#[]⟩,.slice none 0 0,.slice none 0 0]) ?_ 0 _ rfl;refine blk_far ?_ aU.out _;(with_reducible repeat (first|refine blk_drewN ?_ _|refine blk_drew ?_|refine blk_alloc ?_ _));exact aI.out) Tryz.underlying25 rfl (by kernel_rfl)) rfl ?_
 exact⟨_,_,by first|rfl|(simp [errW_none,errW_some] <;> rfl)|(simp [*,errW_none,errW_some] <;> rfl),by(with_reducible repeat (first|apply Kd.R_alloc|apply Kd.R_drewN|apply Kd.R_drew));exact Kd.R_mono (Kd.R_far (p:=⟨aD,4,none⟩) (Kd.R_far (p:=⟨aD,3,none⟩) (Kd.R_far (p:=⟨aD,2,none⟩) (Kd.R_far (p:=⟨aD,1,none⟩) (Kd.R_far (p:=⟨aD,0,none⟩) (Kd.R_far (p:=⟨aB,4,none⟩) (Kd.R_types (Kd.R_types aT.out aA.out (by decide)) aI.out (by decide)) (fun _ hk=>hk.1.2) (.slice aR aO.length aS)) (fun _ hk=>hk.2) (.string aC)) (fun _ hk=>hk.2) (.string aE)) (fun _ hk=>hk.2) (.string aF)) (fun _ hk=>hk.2) (.slice Ao9 aL.length co9)) (fun _ hk=>hk.2) (.slice aR aO.length aS)) (fun _ hk=>trivial),by(with_reducible repeat (first|apply Kd.R_alloc|apply Kd.R_drewN|apply Kd.R_drew));exact Kd.R_mono (Kd.R_far (p:=⟨aD,4,none⟩) (Kd.R_far (p:=⟨aD,3,none⟩) (Kd.R_far (p:=⟨aD,2,none⟩) (Kd.R_far (p:=⟨aD,1,none⟩) (Kd.R_far (p:=⟨aD,0,none⟩) (Kd.R_far (p:=⟨aB,4,none⟩) (Kd.R_types (Kd.R_types aV.out aA.out (by decide)) aI.out (by decide)) (fun _ hk=>hk.1.2) (.slice aR aO.length aS)) (fun _ hk=>hk.2) (.string aC)) (fun _ hk=>hk.2) (.string aE)) (fun _ hk=>hk.2) (.string aF)) (fun _ hk=>hk.2) (.slice Ao9 aL.length co9)) (fun _ hk=>hk.2) (.slice aR aO.length aS)) (fun _ hk=>trivial),by repeat (first|(with_reducible first|exact HB.out|apply below_alloc|apply pw_below_drewN|apply below_drew1|refine below_set ?_ aP.out|refine below_set ?_ aQ.out)|exact HB.out)⟩
mutual
def i7_signs.l0:Nat→ByteArray→Int→Int→Int→Option (Bool)
 |0,_,_,_,_=>none
 |k+1,x0,x1,x2,x7=>if x7<(x0.size:Int) then(if 0≤x7 then((i7_letter.f (bt x0 x7)).bind fun aH=>(if aH=true then(i7_signs.j1 k x0 x1 x2 x7 false) else((idiomref01_Digit.f (bt x0 x7)).bind fun aD=>(i7_signs.j1 k x0 x1 x2 x7 (!aD))))) else(none)) else(if (x0.size:Int)≥x1 then(some (decide ((x0.size:Int)≤x2))) else(some false))
def i7_signs.j1:Nat→ByteArray→Int→Int→Int→Bool→Option (Bool)
 |0,_,_,_,_,_=>none
 |k+1,x0,x1,x2,x7,x25=>if x25=true then(some false) else(i7_signs.l0 k x0 x1 x2 (wrap64 (x7+1)))
end
def i7_signs.f (k:Nat) (a0:ByteArray) (a1:Int) (a2:Int):Option (Bool):=i7_signs.l0 k a0 a1 a2 0
set_option maxHeartbeats 8000000 in
set_option maxRecDepth 100000 in
theorem i7_signs.calls (k:Nat) (a0:ByteArray) (a1:Int) (a2:Int) (r:Bool) (w:World) (h:i7_signs.f k a0 a1 a2=some r):
 Calls Tryz.prog 35 #[.string a0,.int .i64 a1,.int .i64 a2] w fun e w'=>e=.returned (.bool r)∧Drawn0 w w':=by
 have H:(i7_signs.l0 k a0 a1 a2 0)=some r:=h;clear h;have H':=ak_ H;clear H
 go_enter Tryz.func35,Tryz.ntmps35
 go_wp2
 go_loopg [7] k (fun kq v7 w'=>∃ (aA:Int),v7=.int .i64 aA∧Aside0 (i7_signs.l0 kq a0 a1 a2 aA=some r)∧Aside0 (kq≤k)∧Drawn0 w w')
 case atStart=>exact ⟨(0),(by first|rfl|(simp;done)|(simp [*];done)),H',⟨Nat.le_refl _⟩,by repeat (first|exact Drawn0.refl _|apply Drawn0.step)⟩
 case round=>
  clear H';try clear p2
  try clear c3
  obtain⟨aA,rfl,HA,HK1,⟨m1,rfl⟩⟩:=hrel;cases gk with
  |zero=>exact absurd HA.out (by simp [i7_signs.l0])
  | succ k1=>
   have H:=HA.out;clear HA;simp only [i7_signs.l0] at H;by_cases c4:aA<(a0.size:Int)
   ·rw [if_pos c4] at H
    have aI:decide (aA<(a0.size:Int))=true:=decide_eq_true c4;clear c4;have HC5:=ak_ H;clear H
    go_upto_region 4 with (fail)
    go_cut [25] (fun v25 wc=>∃ (kq:Nat) (aF:Bool),v25=.bool aF∧Aside0 (i7_signs.j1 kq a0 a1 a2 aA aF=some r)∧Aside0 (kq≤k1)∧Drawn0 w wc)
    case first=>
     have H:=HC5.out;clear HC5;by_cases c6:0≤aA
     ·rw [if_pos c6] at H
      have aG:decide (0≤aA)=true:=decide_eq_true c6;clear c6
      (first|rw [aG]|rw [aJ]|rw [aL]|(simp only [i64_w,i32_w];rw [aG])|skip)
      (try simp only [Bool.not_true,Bool.not_false])
      replace H:=Option.bind_eq_some_iff.mp H;obtain⟨aH,A80,H⟩:=H;try dsimp only at H
      have A8:=ak_ A80;clear A80;by_cases c9:aH=true
      ·subst c9
       have H1:(i7_signs.j1 k1 a0 a1 a2 aA false)=some r:=by rw [if_pos rfl] at H;exact H
       clear H;have H:=H1;clear H1;have H':=ak_ H;clear H;have p7:0≤(aA:Int):=of_decide_eq_true (by first|(with_reducible assumption)|assumption)
       have q7:aA<(a0.size:Int):=of_decide_eq_true (by first|(with_reducible assumption)|assumption)
       have hx7:=bt_at a0 aA;replace p7:=eq_true p7;replace q7:=eq_true q7
       go_wp2_with (first|((with_reducible refine gate_callee (f:=66) rfl ?_);refine gb_ (some 17) Tryz.func66 #[.int .u8 (bt a0 aA)] ?_;(with_reducible refine(i7_letter.calls (bt a0 aA) true _ A8.out).mono ?_);rintro e w' ⟨rfl,⟨nd,rfl⟩⟩;refine⟨_,rfl,?_⟩))
       go_meet
       case rel=>exact ⟨_,(false),(by first|rfl|(simp;done)|(simp [*];done)),H',⟨by have:=HK1.out;first|omega|exact Nat.le_refl _⟩,by repeat (first|exact Drawn0.refl _|apply Drawn0.step)⟩
      ·replace c9:=Bool.eq_false_iff.mpr c9
       subst c9;have H1:((idiomref01_Digit.f (bt a0 aA)).bind fun aD=>(i7_signs.j1 k1 a0 a1 a2 aA (!aD)))=some r:=by rw [if_neg (show ¬ (false=true) by decide)] at H;exact H
       clear H;have H:=H1;clear H1;replace H:=Option.bind_eq_some_iff.mp H;obtain⟨aD,aK,H⟩:=H;try dsimp only at H
       have A11:=ak_ aK;clear aK;have H':=ak_ H;clear H;have p7:0≤(aA:Int):=of_decide_eq_true (by first|(with_reducible assumption)|assumption)
       have q7:aA<(a0.size:Int):=of_decide_eq_true (by first|(with_reducible assumption)|assumption)
       have hx7:=bt_at a0 aA;replace p7:=eq_true p7;replace q7:=eq_true q7
       go_wp2_with (first|((with_reducible refine gate_callee (f:=66) rfl ?_);refine gb_ (some 17) Tryz.func66 #[.int .u8 (bt a0 aA)] ?_;(with_reducible refine(i7_letter.calls (bt a0 aA) false _ A8.out).mono ?_);rintro e w' ⟨rfl,⟨nd,rfl⟩⟩;refine⟨_,rfl,?_⟩;have p10:0≤(aA:Int):=of_decide_eq_true (by first|(with_reducible assumption)|assumption);have q10:aA<(a0.size:Int):=of_decide_eq_true (by first|(with_reducible assumption)|assumption);have aM:=bt_at a0 aA;replace p10:=eq_true p10;replace q10:=eq_true q10)|(go_at_call 65;(with_reducible refine(idiomref01_Digit.calls (bt a0 aA) aD _ A11.out).mono ?_);rintro e w' ⟨rfl,⟨nd,rfl⟩⟩))
       go_meet
       case rel=>exact ⟨_,(!aD),(by first|rfl|(simp;done)|(simp [*];done)),H',⟨by have:=HK1.out;first|omega|exact Nat.le_refl _⟩,by repeat (first|exact Drawn0.refl _|apply Drawn0.step)⟩
     ·rw [if_neg c6] at H
      exact absurd H (by simp)
    case rest=>
     clear HC5;try clear p1
     try clear q1
     try clear hx1
     try clear p2
     try clear c3
     try clear c4
     try clear aI
     try clear c6
     try clear aG
     try clear aJ
     try clear aL
     try clear p7
     try clear q7
     try clear hx7
     try clear c9
     try clear p10
     try clear q10
     try clear aM
     try clear p10
     try clear p2
     try clear p7
     try clear q10
     try clear q7
     obtain⟨kq,aF,rfl,HA,HJ4,⟨mc4,rfl⟩⟩:=hcut;cases kq with
     |zero=>exact absurd HA.out (by simp [i7_signs.j1])
     | succ kj4=>
      have H:=HA.out;clear HA;simp only [i7_signs.j1] at H;by_cases c12:aF=true
      ·subst c12
       have H1:(some false)=some r:=by rw [if_pos rfl] at H;exact H
       clear H;have H:=H1;clear H1;obtain rfl:=Option.some.inj H
       go_wp2
       go_ret
       exact⟨by first|rfl|(simp;done)|(simp [*];done),by repeat (first|exact Drawn0.refl _|apply Drawn0.step)⟩
      ·replace c12:=Bool.eq_false_iff.mpr c12
       subst c12;have H1:(i7_signs.l0 kj4 a0 a1 a2 (wrap64 (aA+1)))=some r:=by rw [if_neg (show ¬ (false=true) by decide)] at H;exact H
       clear H;have H:=H1;clear H1;have H':=ak_ H;clear H
       go_wp2
       go_roundg kj4
       case measure=>have:=HK1.out;have:=HJ4.out;omega
       case rel=>exact ⟨(wrap64 (aA+1)),(by first|rfl|(simp;done)|(simp [*];done)),H',⟨by have:=HK1.out;have:=HJ4.out;omega⟩,by repeat (first|exact Drawn0.refl _|apply Drawn0.step)⟩
   ·rw [if_neg c4] at H
    have aI:decide (aA<(a0.size:Int))=false:=decide_eq_false c4;clear c4;by_cases c13:(a0.size:Int)≥a1
    ·rw [if_pos c13] at H
     have aN:decide (a1≤(a0.size:Int))=true:=decide_eq_true c13;clear c13;obtain rfl:=Option.some.inj H
     go_wp2
     go_ret
     exact⟨by first|rfl|(simp;done)|(simp [*];done),by repeat (first|exact Drawn0.refl _|apply Drawn0.step)⟩
    ·rw [if_neg c13] at H
     have aN:decide (a1≤(a0.size:Int))=false:=decide_eq_false c13;clear c13;obtain rfl:=Option.some.inj H
     go_wp2
     go_ret
     exact⟨by first|rfl|(simp;done)|(simp [*];done),by repeat (first|exact Drawn0.refl _|apply Drawn0.step)⟩
def i7_variant.f (k:Nat) (a0:ByteArray):Option (Bool):=(i7_signs.f k a0 5 8).bind fun aE=>(if aE=true then(some true) else((i7_signs.f k a0 4 4).bind fun aC=>(if aC=true then(if 0<(a0.size:Int) then((idiomref01_Digit.f (bt a0 0)).bind fun aB=>(some aB)) else(none)) else(some false))))
set_option maxHeartbeats 8000000 in
set_option maxRecDepth 100000 in
theorem i7_variant.calls (k:Nat) (a0:ByteArray) (r:Bool) (w:World) (h:i7_variant.f k a0=some r):
 Calls Tryz.prog 34 #[.string a0] w fun e w'=>e=.returned (.bool r)∧Drawn0 w w':=by
 have H:((i7_signs.f k a0 5 8).bind fun aE=>(if aE=true then(some true) else((i7_signs.f k a0 4 4).bind fun aC=>(if aC=true then(if 0<(a0.size:Int) then((idiomref01_Digit.f (bt a0 0)).bind fun aB=>(some aB)) else(none)) else(some false)))))=some r:=h;clear h;replace H:=Option.bind_eq_some_iff.mp H;obtain⟨aE,A20,H⟩:=H;try dsimp only at H
 have A2:=ak_ A20;clear A20;by_cases c3:aE=true
 ·subst c3
  have H1:(some true)=some r:=by rw [if_pos rfl] at H;exact H
  clear H;have H:=H1;clear H1;obtain rfl:=Option.some.inj H
  go_enter Tryz.func34,Tryz.ntmps34
  go_wp2_with (first|((with_reducible refine gate_callee (f:=35) rfl ?_);refine gb_ (some 4) Tryz.func35 #[.string a0,.int .i64 5,.int .i64 8] ?_;(with_reducible refine(i7_signs.calls k a0 5 8 true _ A2.out).mono ?_);rintro e w' ⟨rfl,⟨nd,rfl⟩⟩;refine⟨_,rfl,?_⟩))
  go_ret
  exact⟨by first|rfl|(simp;done)|(simp [*];done),by repeat (first|exact Drawn0.refl _|apply Drawn0.step)⟩
 ·replace c3:=Bool.eq_false_iff.mpr c3
  subst c3;have H1:((i7_signs.f k a0 4 4).bind fun aC=>(if aC=true then(if 0<(a0.size:Int) then((idiomref01_Digit.f (bt a0 0)).bind fun aB=>(some aB)) else(none)) else(some false)))=some r:=by rw [if_neg (show ¬ (false=true) by decide)] at H;exact H
  clear H;have H:=H1;clear H1;replace H:=Option.bind_eq_some_iff.mp H;obtain⟨aC,A40,H⟩:=H;try dsimp only at H
  have A4:=ak_ A40;clear A40;by_cases c5:aC=true
  ·subst c5
   have H1:(if 0<(a0.size:Int) then((idiomref01_Digit.f (bt a0 0)).bind fun aB=>(some aB)) else(none))=some r:=by rw [if_pos rfl] at H;exact H
   clear H;have H:=H1;clear H1;by_cases c6:0<(a0.size:Int)
   ·rw [if_pos c6] at H
    have aG:decide (0<(a0.size:Int))=true:=decide_eq_true c6;have aJ:decide (0<a0.size)=true:=decide_eq_true (by omega)
    clear c6;replace H:=Option.bind_eq_some_iff.mp H;obtain⟨aB,A80,H⟩:=H;try dsimp only at H
    have A8:=ak_ A80;clear A80;obtain rfl:=Option.some.inj H
    go_enter Tryz.func34,Tryz.ntmps34
    go_wp2_with (first|((with_reducible refine gate_callee (f:=35) rfl ?_);refine gb_ (some 4) Tryz.func35 #[.string a0,.int .i64 5,.int .i64 8] ?_;(with_reducible refine(i7_signs.calls k a0 5 8 false _ A2.out).mono ?_);rintro e w' ⟨rfl,⟨nd,rfl⟩⟩;refine⟨_,rfl,?_⟩)|(go_at_call 35;(with_reducible refine(i7_signs.calls k a0 4 4 true _ A4.out).mono ?_);rintro e w' ⟨rfl,⟨nd,rfl⟩⟩;have p7:0≤(0:Int):=(by omega);have q7:0<a0.size:=(by have:(0:Int)<(a0.size:Int):=of_decide_eq_true (by first|(with_reducible assumption)|assumption);omega);have hx7:∀ h:0<a0.size,((a0[0]'h).toNat:Int)=bt a0 0:=bt_at a0 0;clear p7;have qi7:(0<(a0.size:Int))=True:=eq_true (of_decide_eq_true (by first|(with_reducible assumption)|assumption));replace q7:=eq_true q7)|(go_at_call 65;(with_reducible refine(idiomref01_Digit.calls (bt a0 0) aB _ A8.out).mono ?_);rintro e w' ⟨rfl,⟨nd,rfl⟩⟩))
    go_ret
    exact⟨by first|rfl|(simp;done)|(simp [*];done),by repeat (first|exact Drawn0.refl _|apply Drawn0.step)⟩
   ·rw [if_neg c6] at H
    exact absurd H (by simp)
  ·replace c5:=Bool.eq_false_iff.mpr c5
   subst c5;have H1:(some false)=some r:=by rw [if_neg (show ¬ (false=true) by decide)] at H;exact H
   clear H;have H:=H1;clear H1;obtain rfl:=Option.some.inj H
   go_enter Tryz.func34,Tryz.ntmps34
   go_wp2_with (first|((with_reducible refine gate_callee (f:=35) rfl ?_);refine gb_ (some 4) Tryz.func35 #[.string a0,.int .i64 5,.int .i64 8] ?_;(with_reducible refine(i7_signs.calls k a0 5 8 false _ A2.out).mono ?_);rintro e w' ⟨rfl,⟨nd,rfl⟩⟩;refine⟨_,rfl,?_⟩)|(go_at_call 35;(with_reducible refine(i7_signs.calls k a0 4 4 false _ A4.out).mono ?_);rintro e w' ⟨rfl,⟨nd,rfl⟩⟩))
   go_ret
   exact⟨by first|rfl|(simp;done)|(simp [*];done),by repeat (first|exact Drawn0.refl _|apply Drawn0.step)⟩
mutual
def tag_letters.l0:Nat→ByteArray→Int→Int→Int→Int→Option (Bool)
 |0,_,_,_,_,_=>none
 |k+1,x0,x1,x2,x10,x11=>if x11<x10 then(if 0≤x11 then(if x11<(x0.size:Int) then(if (Go.bits .or .u8 (bt x0 x11) 32)<97 then(tag_letters.j1 k x0 x1 x2 x10 x11 true) else(tag_letters.j1 k x0 x1 x2 x10 x11 (decide ((Go.bits .or .u8 (bt x0 x11) 32)>122)))) else(none)) else(none)) else(if (x0.size:Int)≥x1 then(some (decide ((x0.size:Int)≤x2))) else(some false))
def tag_letters.j1:Nat→ByteArray→Int→Int→Int→Int→Bool→Option (Bool)
 |0,_,_,_,_,_,_=>none
 |k+1,x0,x1,x2,x10,x11,x23=>if x23=true then(some false) else(tag_letters.l0 k x0 x1 x2 x10 (wrap64 (x11+1)))
end
def tag_letters.f (k:Nat) (a0:ByteArray) (a1:Int) (a2:Int):Option (Bool):=tag_letters.l0 k a0 a1 a2 (a0.size:Int) 0
set_option maxHeartbeats 8000000 in
set_option maxRecDepth 100000 in
theorem tag_letters.calls (k:Nat) (a0:ByteArray) (a1:Int) (a2:Int) (r:Bool) (w:World) (h:tag_letters.f k a0 a1 a2=some r):
 Calls Tryz.prog 53 #[.string a0,.int .i64 a1,.int .i64 a2] w fun e w'=>e=.returned (.bool r)∧Drawn0 w w':=by
 have H:(tag_letters.l0 k a0 a1 a2 (a0.size:Int) 0)=some r:=h;clear h;have H':=ak_ H;clear H
 go_enter Tryz.func53,Tryz.ntmps53
 go_wp2
 go_loopg [11] k (fun kq v11 w'=>∃ (aA:Int),v11=.int .i64 aA∧Aside0 (tag_letters.l0 kq a0 a1 a2 (a0.size:Int) aA=some r)∧Aside0 (kq≤k)∧Drawn0 w w')
 case atStart=>exact ⟨(0),(by first|rfl|(simp;done)|(simp [*];done)),H',⟨Nat.le_refl _⟩,by repeat (first|exact Drawn0.refl _|apply Drawn0.step)⟩
 case round=>
  clear H';try clear p2
  obtain⟨aA,rfl,HA,HK1,⟨m1,rfl⟩⟩:=hrel;cases gk with
  |zero=>exact absurd HA.out (by simp [tag_letters.l0])
  | succ k1=>
   have H:=HA.out;clear HA;simp only [tag_letters.l0] at H;by_cases c4:aA<(a0.size:Int)
   ·rw [if_pos c4] at H
    have aF:decide (aA<(a0.size:Int))=true:=decide_eq_true c4;clear c4;by_cases c5:0≤aA
    ·rw [if_pos c5] at H
     have aG:decide (0≤aA)=true:=decide_eq_true c5;clear c5;by_cases c6:aA<(a0.size:Int)
     ·rw [if_pos c6] at H
      have aJ:decide (aA<(a0.size:Int))=true:=decide_eq_true c6;clear c6;have HC8:=ak_ H;clear H;have p7:0≤(aA:Int):=of_decide_eq_true (by first|(with_reducible assumption)|assumption)
      have q7:aA<(a0.size:Int):=of_decide_eq_true (by first|(with_reducible assumption)|assumption)
      have hx7:=bt_at a0 aA;replace p7:=eq_true p7;replace q7:=eq_true q7
      go_upto_region 5 with (fail)
      go_cut [23] (fun v23 wc=>∃ (kq:Nat) (aE:Bool),v23=.bool aE∧Aside0 (tag_letters.j1 kq a0 a1 a2 (a0.size:Int) aA aE=some r)∧Aside0 (kq≤k1)∧Drawn0 w wc)
      case first=>
       have H:=HC8.out;clear HC8;by_cases c9:(Go.bits .or .u8 (bt a0 aA) 32)<97
       ·rw [if_pos c9] at H
        have aD:decide ((Go.bits .or .u8 (bt a0 aA) 32)<97)=true:=decide_eq_true c9;clear c9
        (first|rw [aD]|rw [aH]|rw [aI]|(simp only [i64_w,i32_w];rw [aD])|skip)
        (try simp only [Bool.not_true,Bool.not_false])
        have H':=ak_ H;clear H
        go_wp2
        go_meet
        case rel=>exact ⟨_,(true),(by first|rfl|(simp;done)|(simp [*];done)),H',⟨by have:=HK1.out;first|omega|exact Nat.le_refl _⟩,by repeat (first|exact Drawn0.refl _|apply Drawn0.step)⟩
       ·rw [if_neg c9] at H
        have aD:decide ((Go.bits .or .u8 (bt a0 aA) 32)<97)=false:=decide_eq_false c9;clear c9
        (first|rw [aD]|rw [aH]|rw [aI]|(simp only [i64_w,i32_w];rw [aD])|skip)
        (try simp only [Bool.not_true,Bool.not_false])
        have H':=ak_ H;clear H
        go_wp2
        go_meet
        case rel=>exact ⟨_,(decide ((Go.bits .or .u8 (bt a0 aA) 32)>122)),(by first|rfl|(simp;done)|(simp [*];done)),H',⟨by have:=HK1.out;first|omega|exact Nat.le_refl _⟩,by repeat (first|exact Drawn0.refl _|apply Drawn0.step)⟩
      case rest=>
       clear HC8;try clear p2
       try clear c4
       try clear aF
       try clear c5
       try clear aG
       try clear c6
       try clear aJ
       try clear p7
       try clear q7
       try clear hx7
       try clear c9
       try clear aD
       try clear aH
       try clear aI
       try clear p2
       try clear p7
       try clear q7
       obtain⟨kq,aE,rfl,HA,HJ7,⟨mc7,rfl⟩⟩:=hcut;cases kq with
       |zero=>exact absurd HA.out (by simp [tag_letters.j1])
       | succ kj7=>
        have H:=HA.out;clear HA;simp only [tag_letters.j1] at H;by_cases c10:aE=true
        ·subst c10
         have H1:(some false)=some r:=by rw [if_pos rfl] at H;exact H
         clear H;have H:=H1;clear H1;obtain rfl:=Option.some.inj H
         go_wp2
         go_ret
         exact⟨by first|rfl|(simp;done)|(simp [*];done),by repeat (first|exact Drawn0.refl _|apply Drawn0.step)⟩
        ·replace c10:=Bool.eq_false_iff.mpr c10
         subst c10;have H1:(tag_letters.l0 kj7 a0 a1 a2 (a0.size:Int) (wrap64 (aA+1)))=some r:=by rw [if_neg (show ¬ (false=true) by decide)] at H;exact H
         clear H;have H:=H1;clear H1;have H':=ak_ H;clear H
         go_wp2
         go_roundg kj7
         case measure=>have:=HK1.out;have:=HJ7.out;omega
         case rel=>exact ⟨(wrap64 (aA+1)),(by first|rfl|(simp;done)|(simp [*];done)),H',⟨by have:=HK1.out;have:=HJ7.out;omega⟩,by repeat (first|exact Drawn0.refl _|apply Drawn0.step)⟩
     ·rw [if_neg c6] at H
      exact absurd H (by simp)
    ·rw [if_neg c5] at H
     exact absurd H (by simp)
   ·rw [if_neg c4] at H
    have aF:decide (aA<(a0.size:Int))=false:=decide_eq_false c4;clear c4;by_cases c11:(a0.size:Int)≥a1
    ·rw [if_pos c11] at H
     have aK:decide (a1≤(a0.size:Int))=true:=decide_eq_true c11;clear c11;obtain rfl:=Option.some.inj H
     go_wp2
     go_ret
     exact⟨by first|rfl|(simp;done)|(simp [*];done),by repeat (first|exact Drawn0.refl _|apply Drawn0.step)⟩
    ·rw [if_neg c11] at H
     have aK:decide (a1≤(a0.size:Int))=false:=decide_eq_false c11;clear c11;obtain rfl:=Option.some.inj H
     go_wp2
     go_ret
     exact⟨by first|rfl|(simp;done)|(simp [*];done),by repeat (first|exact Drawn0.refl _|apply Drawn0.step)⟩
def tag_upper.g (b:UInt8):UInt8:=if 97≤b.toNat∧b.toNat≤122 then UInt8.ofNat (b.toNat - 32) else b
def tag_upper.f (a0:ByteArray):Option ByteArray:=if a0.size<9223372036854775807 then some ⟨(a0.data.toList.map tag_upper.g).toArray⟩ else none
set_option maxHeartbeats 4000000 in
set_option maxRecDepth 100000 in
theorem tag_upper.calls (a0 r:ByteArray) (w:World) (h:tag_upper.f a0=some r):
 Calls Tryz.prog 56 #[.string a0] w fun e w'=>e=.returned (.string r)∧Below w.heap.size w w':=by
 unfold tag_upper.f at h;by_cases hs:a0.size<9223372036854775807
 ·rw [if_pos hs] at h
  obtain rfl:=Option.some.inj h;clear h;have hcv:∀ W:World,(convert 9 82 (.string a0)).run Tryz.prog W=.ok (.slice (some ⟨W.heap.size,0,none⟩) a0.size (grownCap W a0.size 0 5)) (Lib.bytesWorld W 5 a0):=fun W=>Lib.run_convert_string_bytes W 9 82 5 a0 Tryz.underlying9 Tryz.underlying82 Tryz.underlying5;have hB0:Below w.heap.size w (Lib.bytesWorld w 5 a0):=bytes_below (Below.refl _ _) (Nat.le_refl _) 5 a0;have hC0:BytesAt (Lib.bytesWorld w 5 a0) w.heap.size a0.size (tAt tag_upper.g a0.data.toList 0):=(BytesAt.conv w 5 a0).congr (fun j=>tAt_old (Nat.zero_le _))
  go_enter Tryz.func56,Tryz.ntmps56
  go_wp2
  go_loopg [10] (a0.size+1) (fun kq v10 w'=>∃ i:Nat,v10=.int .i64 (i:Int)∧Aside0 (kq+i=a0.size+1)∧Aside0 (i≤a0.size)∧Aside0 (BytesAt w' w.heap.size a0.size (tAt tag_upper.g a0.data.toList i))∧Aside0 (Below w.heap.size w w'))
  case atStart=>exact ⟨0,rfl,⟨rfl⟩,⟨Nat.zero_le _⟩,⟨hC0⟩,⟨hB0⟩⟩
  case round=>
   obtain⟨i,rfl,HK,HI,HC,HB⟩:=hrel;cases gk with
   |zero=>exact absurd HK.out (by have:=HI.out;omega)
   | succ k1=>
    by_cases c1:i<a0.size
    ·have t1:decide ((i:Int)<(a0.size:Int))=true:=decide_eq_true (by omega)
     obtain⟨x,hx⟩:∃ x,x=a0.data.toList.getD i 0:=⟨_,rfl⟩;have hcell:=(HC.out i c1).1;have hfz:=(HC.out i c1).2;rw [tAt_old (Nat.le_refl _),← hx] at hcell;have HX:=ak_ hx;clear hx;have hw1:IntKind.i64.wrap ((i:Int)+1)=(i:Int)+1:=by simp [IntKind.wrap,IntKind.bits,IntKind.signed];omega
     have hxl:=x.toNat_lt;have HXL:=ak_ hxl;clear hxl;by_cases c2:97≤x.toNat∧x.toNat≤122
     ·have t2:decide ((97:Int)≤(x.toNat:Int))=true:=decide_eq_true (by omega)
      have t3:decide ((x.toNat:Int)≤122)=true:=decide_eq_true (by omega)
      have C2:=ak_ c2;clear c2
      go_wp2
      go_roundg k1
      case measure=>omega
      case rel=>exact ⟨i+1,by go_num,⟨by have:=HK.out;omega⟩,⟨by omega⟩,⟨HC.out.set (fun j hj=>tAt_next hj) (by rw [tAt_here,← HX.out];unfold tag_upper.g;rw [if_pos C2.out,UInt8.toNat_ofNat'];have:=C2.out;first|omega|(simp [IntKind.wrap,IntKind.bits,IntKind.signed];omega))⟩,⟨HB.out.setCell (Nat.le_refl _) _⟩⟩
     ·have hlow:tag_upper.g x=x:=if_neg c2
      have HL:=ak_ hlow;clear hlow;by_cases c3:97≤x.toNat
      ·have t2:decide ((97:Int)≤(x.toNat:Int))=true:=decide_eq_true (by omega)
       have t3:decide ((x.toNat:Int)≤122)=false:=decide_eq_false (by omega)
       clear c2 c3
       go_wp2
       go_roundg k1
       case measure=>omega
       case rel=>exact ⟨i+1,by go_num,⟨by have:=HK.out;omega⟩,⟨by omega⟩,⟨HC.out.congr (fun j=>tAt_same (by rw [← HX.out];exact HL.out) j)⟩,⟨HB.out⟩⟩
      ·have t2:decide ((97:Int)≤(x.toNat:Int))=false:=decide_eq_false (by omega)
       clear c2 c3
       go_wp2
       go_roundg k1
       case measure=>omega
       case rel=>exact ⟨i+1,by go_num,⟨by have:=HK.out;omega⟩,⟨by omega⟩,⟨HC.out.congr (fun j=>tAt_same (by rw [← HX.out];exact HL.out) j)⟩,⟨HB.out⟩⟩
    ·have t1:decide ((i:Int)<(a0.size:Int))=false:=decide_eq_false (by omega)
     have hi:i=a0.size:=by have:=HI.out;omega
     subst hi;have hbk:=tAt_done (P:=Tryz.prog) (cap:=grownCap w a0.size 0 5) Tryz.underlying82 Tryz.underlying5 Tryz.underlying9 HC.out
     go_wp2
     go_ret
     exact⟨rfl,HB.out⟩
 ·rw [if_neg hs] at h;cases h
def tag_title.f (a0:ByteArray):Option (ByteArray):=if 0≤1 then(if 1≤(a0.size:Int) then((tag_upper.f (a0.extract 0 1)).bind fun aB=>((tag_lower.f (a0.extract 1 a0.size)).bind fun aC=>(if aB.size+aC.size≤9223372036854775807 then(some (aB++aC)) else(none)))) else(none)) else(none)
def tag_title.T1:Bool×List (List Nat×List Nat):=(true,[([],[]),([0],[0]),([1],[1]),([],[]),([3],[3]),([4,2],[4]),([2,5],[2,5]),([6,5,0,1,2,3,4,5,6],[6])])
def tag_title.B1:List Nat:=[0,1,3,0,8,31,63,127]
theorem tag_title.tab1:rtab .any (opsOf Tryz.f54 1)=tag_title.T1:=by kernel_rfl
theorem tag_title.bits1:waitsOk tag_title.T1.2 tag_title.B1=true:=by kernel_rfl
set_option maxHeartbeats 8000000 in
set_option maxRecDepth 100000 in
theorem tag_title.calls (a0:ByteArray) (r:ByteArray) (w:World) (h:tag_title.f a0=some r):
 Calls Tryz.prog 54 #[.string a0] w fun e w'=>e=.returned (.string r)∧Below w.heap.size w w':=by
 have HB:=ak_ (Below.refl w.heap.size w);have H:(if 0≤1 then(if 1≤(a0.size:Int) then((tag_upper.f (a0.extract 0 1)).bind fun aB=>((tag_lower.f (a0.extract 1 a0.size)).bind fun aC=>(if aB.size+aC.size≤9223372036854775807 then(some (aB++aC)) else(none)))) else(none)) else(none))=some r:=h;clear h;by_cases c2:0≤1
 ·rw [if_pos c2] at H
  have c2b0:=eq_true c2;have c2b1:decide (0≤1)=true:=decide_eq_true c2;clear c2;by_cases c3:1≤(a0.size:Int)
  ·rw [if_pos c3] at H
   have c3b0:=eq_true c3;have c3b1:decide (1≤(a0.size:Int))=true:=decide_eq_true c3;clear c3;replace H:=Option.bind_eq_some_iff.mp H;obtain⟨aB,A40,H⟩:=H;try dsimp only at H
   have A4:=ak_ A40;clear A40;have aG:=eq_true (of_decide_eq_true (by first|(with_reducible assumption)|assumption):1≤(a0.size:Int))
   replace H:=Option.bind_eq_some_iff.mp H;obtain⟨aC,A60,H⟩:=H;try dsimp only at H
   have A6:=ak_ A60;clear A60;by_cases c7:aB.size+aC.size≤9223372036854775807
   ·rw [if_pos c7] at H
    have c7b0:=eq_true c7;have c7b1:decide (aB.size+aC.size≤9223372036854775807)=true:=decide_eq_true c7;try have aL:(9223372036854775807<aB.size+aC.size)=False:=eq_false (Nat.not_lt.2 c7)
    (try (have aM:=aL;simp only [ByteArray.size_append,sz1_,sz2_,sz3_] at aM))
    obtain rfl:=Option.some.inj H
    go_enter Tryz.func54,Tryz.ntmps54
    try go_wp2
    replace HB:=ak_ (below_drew1 HB.out);refine start_ (n:=8) (S:=fun w'=>True) (ds:=[]) (bmp 8 0) (by kernel_rfl) rfl rfl trivial (fun hHeld=>?_);refine with_tabW tag_title.tab1 tag_title.bits1 (fun HT_ HW_=>?_)
    generalize w.drew=w8 at HB hHeld ⊢
    iterate 2 (refine pu_ HT_ ?_)
    refine pg_ 3 (bm 8 11) HT_ ?_;refine pg_ 4 (bm 8 27) HT_ ?_;refine one_ (i:=2) (N:=some 5) (bmp 8 5) rfl rfl (one_of HT_.out (by kernel_rfl)) (by decide) (fun K hK=>?_)
    refine goes_ Tryz.func56 (by kernel_rfl) rfl #[.string (a0.extract 0 1)] (by rfl) rfl rfl (by(try simp only [List.map_toArray,List.map_cons,List.map_nil]);first|done|rfl|(simp only [List.length_drop,List.length_take];rfl)) ?_
    with_reducible refine(tag_upper.calls (a0.extract 0 1) aB _ A4.out).mono ?_
    rintro e w9 ⟨rfl,hb⟩;refine⟨_,rfl,?_⟩;replace HB:=ak_ (below_step hb_ hb)
    (try clear hb)
    (try clear hb2)
    (try clear hk)
    (try clear hi)
    refine hK.out _ _ trivial (fun hHeld=>?_);clear hK K;refine norm_ (a':=?_) ?_ ?_
    rotate_left
    ·show Act.put _ (some 5) _=_
     simp only [Act.put,List.setIfInBounds_toArray,List.set_cons_zero,List.set_cons_succ,i64_w,i32_w];rfl
    refine one_ (i:=5) (N:=some 8) (bmp 8 6) rfl rfl (one_of HT_.out (by kernel_rfl)) (by decide) (fun K hK=>?_)
    refine goes_ Tryz.func44 (by kernel_rfl) rfl #[.string (a0.extract 1 a0.size)] (by rfl) rfl rfl (by(try simp only [List.map_toArray,List.map_cons,List.map_nil]);first|done|rfl|(simp only [List.length_drop,List.length_take];rfl)) ?_
    with_reducible refine(tag_lower.calls (a0.extract 1 a0.size) aC _ A6.out).mono ?_
    rintro e w10 ⟨rfl,hb⟩;refine⟨_,rfl,?_⟩;replace HB:=ak_ (below_step hb_ hb)
    (try clear hb)
    (try clear hb2)
    (try clear hk)
    (try clear hi)
    refine hK.out _ _ trivial (fun hHeld=>?_);clear hK K;refine norm_ (a':=?_) ?_ ?_
    rotate_left
    ·show Act.put _ (some 8) _=_
     simp only [Act.put,List.setIfInBounds_toArray,List.set_cons_zero,List.set_cons_succ,i64_w,i32_w];rfl
    iterate 2 (refine pu_ HT_ ?_)
    refine dg_ HT_ ?_;try go_wp2
    go_ret
    exact⟨by first|rfl|(simp [errW_none,errW_some] <;> rfl)|(simp [*,errW_none,errW_some] <;> rfl),by repeat (first|(with_reducible first|exact HB.out|apply below_alloc|apply pw_below_drewN|apply below_drew1)|exact HB.out)⟩
   ·rw [if_neg c7] at H
    exact absurd H (by simp)
  ·rw [if_neg c3] at H
   exact absurd H (by simp)
 ·rw [if_neg c2] at H
  exact absurd H (by simp)
mutual
def tag_numerals.l0:Nat→ByteArray→Int→Int→Option (Bool)
 |0,_,_,_=>none
 |k+1,x0,x5,x6=>if x6<x5 then(if 0≤x6 then(if x6<(x0.size:Int) then(if (bt x0 x6)<48 then(tag_numerals.j1 k x0 x5 x6 true) else(tag_numerals.j1 k x0 x5 x6 (decide ((bt x0 x6)>57)))) else(none)) else(none)) else(some ((x0.size:Int)==3))
def tag_numerals.j1:Nat→ByteArray→Int→Int→Bool→Option (Bool)
 |0,_,_,_,_=>none
 |k+1,x0,x5,x6,x18=>if x18=true then(some false) else(tag_numerals.l0 k x0 x5 (wrap64 (x6+1)))
end
def tag_numerals.f (k:Nat) (a0:ByteArray):Option (Bool):=tag_numerals.l0 k a0 (a0.size:Int) 0
set_option maxHeartbeats 8000000 in
set_option maxRecDepth 100000 in
theorem tag_numerals.calls (k:Nat) (a0:ByteArray) (r:Bool) (w:World) (h:tag_numerals.f k a0=some r):
 Calls Tryz.prog 83 #[.string a0] w fun e w'=>e=.returned (.bool r)∧Drawn0 w w':=by
 have H:(tag_numerals.l0 k a0 (a0.size:Int) 0)=some r:=h;clear h;have H':=ak_ H;clear H
 go_enter Tryz.func83,Tryz.ntmps83
 go_wp2
 go_loopg [6] k (fun kq v6 w'=>∃ (aA:Int),v6=.int .i64 aA∧Aside0 (tag_numerals.l0 kq a0 (a0.size:Int) aA=some r)∧Aside0 (kq≤k)∧Drawn0 w w')
 case atStart=>exact ⟨(0),(by first|rfl|(simp;done)|(simp [*];done)),H',⟨Nat.le_refl _⟩,by repeat (first|exact Drawn0.refl _|apply Drawn0.step)⟩
 case round=>
  clear H';obtain⟨aA,rfl,HA,HK1,⟨m1,rfl⟩⟩:=hrel;cases gk with
  |zero=>exact absurd HA.out (by simp [tag_numerals.l0])
  | succ k1=>
   have H:=HA.out;clear HA;simp only [tag_numerals.l0] at H;by_cases c2:aA<(a0.size:Int)
   ·rw [if_pos c2] at H
    have aF:decide (aA<(a0.size:Int))=true:=decide_eq_true c2;clear c2;have HC3:=ak_ H;clear H
    go_upto_region 4 with (fail)
    go_cut [18] (fun v18 wc=>∃ (kq:Nat) (aD:Bool),v18=.bool aD∧Aside0 (tag_numerals.j1 kq a0 (a0.size:Int) aA aD=some r)∧Aside0 (kq≤k1)∧Drawn0 w wc)
    case first=>
     have H:=HC3.out;clear HC3;by_cases c4:0≤aA
     ·rw [if_pos c4] at H
      have aE:decide (0≤aA)=true:=decide_eq_true c4;clear c4
      (first|rw [aE]|rw [aH]|rw [aI]|(simp only [i64_w,i32_w];rw [aE])|skip)
      (try simp only [Bool.not_true,Bool.not_false])
      by_cases c5:aA<(a0.size:Int)
      ·rw [if_pos c5] at H
       have aJ:decide (aA<(a0.size:Int))=true:=decide_eq_true c5;clear c5;by_cases c7:(bt a0 aA)<48
       ·rw [if_pos c7] at H
        have aG:decide ((bt a0 aA)<48)=true:=decide_eq_true c7;clear c7;have H':=ak_ H;clear H;have p6:0≤(aA:Int):=of_decide_eq_true (by first|(with_reducible assumption)|assumption)
        have q6:aA<(a0.size:Int):=of_decide_eq_true (by first|(with_reducible assumption)|assumption)
        have hx6:=bt_at a0 aA;replace p6:=eq_true p6;replace q6:=eq_true q6
        go_wp2
        go_meet
        case rel=>exact ⟨_,(true),(by first|rfl|(simp;done)|(simp [*];done)),H',⟨by have:=HK1.out;first|omega|exact Nat.le_refl _⟩,by repeat (first|exact Drawn0.refl _|apply Drawn0.step)⟩
       ·rw [if_neg c7] at H
        have aG:decide ((bt a0 aA)<48)=false:=decide_eq_false c7;clear c7;have H':=ak_ H;clear H;have p6:0≤(aA:Int):=of_decide_eq_true (by first|(with_reducible assumption)|assumption)
        have q6:aA<(a0.size:Int):=of_decide_eq_true (by first|(with_reducible assumption)|assumption)
        have hx6:=bt_at a0 aA;replace p6:=eq_true p6;replace q6:=eq_true q6;have p8:0≤(aA:Int):=of_decide_eq_true (by first|(with_reducible assumption)|assumption)
        have q8:aA<(a0.size:Int):=of_decide_eq_true (by first|(with_reducible assumption)|assumption)
        have hx8:=bt_at a0 aA;replace p8:=eq_true p8;replace q8:=eq_true q8
        go_wp2
        go_meet
        case rel=>exact ⟨_,(decide ((bt a0 aA)>57)),(by first|rfl|(simp;done)|(simp [*];done)),H',⟨by have:=HK1.out;first|omega|exact Nat.le_refl _⟩,by repeat (first|exact Drawn0.refl _|apply Drawn0.step)⟩
      ·rw [if_neg c5] at H
       exact absurd H (by simp)
     ·rw [if_neg c4] at H
      exact absurd H (by simp)
    case rest=>
     clear HC3;try clear c2
     try clear aF
     try clear p2
     try clear c4
     try clear aE
     try clear aH
     try clear aI
     try clear c5
     try clear aJ
     try clear p6
     try clear q6
     try clear hx6
     try clear c7
     try clear aG
     try clear c8
     try clear p8
     try clear q8
     try clear hx8
     try clear p6
     try clear p8
     try clear q6
     try clear q8
     obtain⟨kq,aD,rfl,HA,HJ2,⟨mc2,rfl⟩⟩:=hcut;cases kq with
     |zero=>exact absurd HA.out (by simp [tag_numerals.j1])
     | succ kj2=>
      have H:=HA.out;clear HA;simp only [tag_numerals.j1] at H;by_cases c9:aD=true
      ·subst c9
       have H1:(some false)=some r:=by rw [if_pos rfl] at H;exact H
       clear H;have H:=H1;clear H1;obtain rfl:=Option.some.inj H
       go_wp2
       go_ret
       exact⟨by first|rfl|(simp;done)|(simp [*];done),by repeat (first|exact Drawn0.refl _|apply Drawn0.step)⟩
      ·replace c9:=Bool.eq_false_iff.mpr c9
       subst c9;have H1:(tag_numerals.l0 kj2 a0 (a0.size:Int) (wrap64 (aA+1)))=some r:=by rw [if_neg (show ¬ (false=true) by decide)] at H;exact H
       clear H;have H:=H1;clear H1;have H':=ak_ H;clear H
       go_wp2
       go_roundg kj2
       case measure=>have:=HK1.out;have:=HJ2.out;omega
       case rel=>exact ⟨(wrap64 (aA+1)),(by first|rfl|(simp;done)|(simp [*];done)),H',⟨by have:=HK1.out;have:=HJ2.out;omega⟩,by repeat (first|exact Drawn0.refl _|apply Drawn0.step)⟩
   ·rw [if_neg c2] at H
    have aF:decide (aA<(a0.size:Int))=false:=decide_eq_false c2;clear c2;obtain rfl:=Option.some.inj H
    go_wp2
    go_ret
    exact⟨by first|rfl|(simp;done)|(simp [*];done),by repeat (first|exact Drawn0.refl _|apply Drawn0.step)⟩
def tag_region.f (k:Nat) (a0:ByteArray):Option (Bool):=(tag_letters.f k a0 2 2).bind fun aC=>(if aC=true then(some true) else((tag_numerals.f k a0).bind fun aB=>(some aB)))
set_option maxHeartbeats 8000000 in
set_option maxRecDepth 100000 in
theorem tag_region.calls (k:Nat) (a0:ByteArray) (r:Bool) (w:World) (h:tag_region.f k a0=some r):
 Calls Tryz.prog 55 #[.string a0] w fun e w'=>e=.returned (.bool r)∧Drawn0 w w':=by
 have H:((tag_letters.f k a0 2 2).bind fun aC=>(if aC=true then(some true) else((tag_numerals.f k a0).bind fun aB=>(some aB))))=some r:=h;clear h;replace H:=Option.bind_eq_some_iff.mp H;obtain⟨aC,A20,H⟩:=H;try dsimp only at H
 have A2:=ak_ A20;clear A20;by_cases c3:aC=true
 ·subst c3
  have H1:(some true)=some r:=by rw [if_pos rfl] at H;exact H
  clear H;have H:=H1;clear H1;obtain rfl:=Option.some.inj H
  go_enter Tryz.func55,Tryz.ntmps55
  go_wp2_with (first|((with_reducible refine gate_callee (f:=53) rfl ?_);refine gb_ (some 4) Tryz.func53 #[.string a0,.int .i64 2,.int .i64 2] ?_;(with_reducible refine(tag_letters.calls k a0 2 2 true _ A2.out).mono ?_);rintro e w' ⟨rfl,⟨nd,rfl⟩⟩;refine⟨_,rfl,?_⟩))
  go_ret
  exact⟨by first|rfl|(simp;done)|(simp [*];done),by repeat (first|exact Drawn0.refl _|apply Drawn0.step)⟩
 ·replace c3:=Bool.eq_false_iff.mpr c3
  subst c3;have H1:((tag_numerals.f k a0).bind fun aB=>(some aB))=some r:=by rw [if_neg (show ¬ (false=true) by decide)] at H;exact H
  clear H;have H:=H1;clear H1;replace H:=Option.bind_eq_some_iff.mp H;obtain⟨aB,A40,H⟩:=H;try dsimp only at H
  have A4:=ak_ A40;clear A40;obtain rfl:=Option.some.inj H
  go_enter Tryz.func55,Tryz.ntmps55
  go_wp2_with (first|((with_reducible refine gate_callee (f:=53) rfl ?_);refine gb_ (some 4) Tryz.func53 #[.string a0,.int .i64 2,.int .i64 2] ?_;(with_reducible refine(tag_letters.calls k a0 2 2 false _ A2.out).mono ?_);rintro e w' ⟨rfl,⟨nd,rfl⟩⟩;refine⟨_,rfl,?_⟩)|(go_at_call 83;(with_reducible refine(tag_numerals.calls k a0 aB _ A4.out).mono ?_);rintro e w' ⟨rfl,⟨nd,rfl⟩⟩))
  go_ret
  exact⟨by first|rfl|(simp;done)|(simp [*];done),by repeat (first|exact Drawn0.refl _|apply Drawn0.step)⟩
end Go.Proofs.YtphjhbppjakocaaGreatDoor.PTag
