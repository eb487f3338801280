/- Several texts of this claim in one: QRchain, QRChain; conditions: those that each theorem states. -/
import Derived.Test.YtphjhbppjakocaaGreatDoorPU22
import Derived.Test.YtphjhbppjakocaaGreatDoorRPut
import Derived.Test.YtphjhbppjakocaaGreatDoorQPairs
import Derived.Test.YtphjhbppjakocaaGreatDoorPU7
import Derived.Test.YtphjhbppjakocaaGreatDoorQBare
set_option linter.unusedVariables false
set_option linter.unusedSimpArgs false
namespace Go.Proofs.YtphjhbppjakocaaGreatDoor.PTag
open Go.RowKit Go.Proofs.YtphjhbppjakocaaGreatDoorW.PrintWords Go.Proofs.YtphjhbppjakocaaGreatDoorW.PrintLast Go.Proofs.YtphjhbppjakocaaGreatDoorW.PrintMore Go.WideShapes Go.ChangeMaps
def i7_chain.l1 (m:Nat) (acc:List S25) (p:TagT):Nat→Nat→Option Bool
 |0,_=>none
 |k+1,i=>if i<acc.length then(i7_Same.f m (rd_T25 acc (i:Int)).f0 (rd_T25 acc (i:Int)).f1 (rd_T25 acc (i:Int)).f2 (rd_T25 acc (i:Int)).f3 (rd_T25 acc (i:Int)).f4 p.1 p.2.1 p.2.2.1 p.2.2.2.1 p.2.2.2.2).bind fun b=>if b=true then some true else i7_chain.l1 m acc p k (i+1) else some false
def i7_chain.l0 (lp:List S45) (m:Nat):Nat→List S25→TagT→Option (List S25×Int)
 |0,_,_=>none
 |k+1,acc,t=>(i7_Root.f m t.1 t.2.1 t.2.2.1 t.2.2.2.1 t.2.2.2.2).bind fun b=>if b=true then some (acc,0) else(i7_parent.f m t.1 t.2.1 t.2.2.1 t.2.2.2.1 t.2.2.2.2 lp).bind fun p=>(i7_chain.l1 m acc p m 0).bind fun q=>if q=true then some ([],6) else if acc.length<1000000000000 then i7_chain.l0 lp m k (acc++[(⟨p.1,p.2.1,p.2.2.1,p.2.2.2.1,p.2.2.2.2⟩:S25)]) p else none
def i7_chain.T7:Bool×List (List Nat×List Nat):=(true,[([],[]),([],[]),([0,1],[0,1]),([2],[2]),([],[]),([3,4],[3,4])])
def i7_chain.B7:List Nat:=[0,0,3,7,0,31]
theorem i7_chain.tab7:rtab .any (opsOf Tryz.f43 7)=i7_chain.T7:=by kernel_rfl
theorem i7_chain.bits7:waitsOk i7_chain.T7.2 i7_chain.B7=true:=by kernel_rfl
theorem F_of_ {α:Type} {d:Kd α} (hd:∀ (w w':World) x cs,d.K w x cs→d.K w' x cs) {w:World} {ok:Nat→Prop} {A:Option Addr} {n:Nat} {xs:List α} (h:d.C w A n xs) (hok:∀ ad,A=some ad→0<n→ok ad.block):Kd.F d w ok A n xs:=fun _ hW=>C_same_ hd h (fun ad e h0 hl=>hW _ (hok ad e h0) hl)
theorem TagR_.fk {w:World} {P:Nat→Prop} {t:TagT} {A3:Option Addr} {c3:Nat} {A4:Option Addr} {c4:Nat} (h:TagR_ w P t A3 c3 A4 c4):Kd.FK k25 w P (⟨t.1,t.2.1,t.2.2.1,t.2.2.2.1,t.2.2.2.2⟩:S25) [.string t.1,.string t.2.1,.string t.2.2.1,.slice A3 t.2.2.2.1.length c3,.slice A4 t.2.2.2.2.length c4]:=
 k25_mkF w P (⟨t.1,t.2.1,t.2.2.1,t.2.2.2.1,t.2.2.2.2⟩:S25) h.2.1 (F_of_ Kstr_ h.1 h.2.2.2.2.1) h.2.2.2.1 (F_of_ Kkey_ h.2.2.1 h.2.2.2.2.2)
def TagsAt_ (w:World) (v:Value) (xs:List S25):Prop:=∃ A c,v=.slice A xs.length c∧xs.length≤c∧Kd.C k25 w A xs.length xs
theorem N_lt_ {α:Type} {d:Kd α} {e base:Nat} {ok:Nat→Prop} {w:World} {v:Value} {xs:List α} (h:Kd.N d e w base ok v xs):∀ k,v.ownBlock=some k→k<w.heap.size:=by
 obtain⟨_,rows,_,hR,_⟩:=h;exact Kd.R_lt hR
theorem PR_ {w:World} {gt:Nat} {A3 A4:Option Addr} {n3 n4:Nat} {v:Value} (hg:gt<w.heap.size) (hv:∀ k,v.ownBlock=some k→k<w.heap.size)
 (h3:∀ ad,A3=some ad→0<n3→ad.block≠gt∧some ad.block≠v.ownBlock) (h4:∀ ad,A4=some ad→0<n4→ad.block≠gt∧some ad.block≠v.ownBlock) {ad:Addr}
 (h:((A3=some ad∧0<n3)∨(A4=some ad∧0<n4))∨w.heap.size≤ad.block):ad.block≠gt∧some ad.block≠v.ownBlock:=by
 rcases h with (⟨e,h0⟩|⟨e,h0⟩)|h
 ·exact h3 ad e h0
 ·exact h4 ad e h0
 ·exact ⟨by omega,fun e=>by have:=hv ad.block e.symm;omega⟩
set_option maxHeartbeats 8000000 in
set_option maxRecDepth 100000 in
theorem i7_chain.calls (n m:Nat) (t0:TagT) (A30:Option Addr) (c30:Nat) (A40:Option Addr) (c40:Nat) (Ap:Option Addr) (cp:Nat) (lp:List S45) (r1:List S25) (r2:Int) (w:World)
 (hT:TagR_ w (fun b=>b<w.heap.size) t0 A30 c30 A40 c40) (hp:Kd.C k45 w Ap lp.length lp) (cp':lp.length≤cp) (h:i7_chain.l0 lp m n [(⟨t0.1,t0.2.1,t0.2.2.1,t0.2.2.2.1,t0.2.2.2.2⟩:S25)] t0=some (r1,r2)):
 Calls Tryz.prog 43 #[.agg #[.string t0.1,.string t0.2.1,.string t0.2.2.1,.slice A30 t0.2.2.2.1.length c30,.slice A40 t0.2.2.2.2.length c40],.slice Ap lp.length cp] w fun e w'=>∃ v,e=.returned (.tuple #[v,.int .i64 r2])∧TagsAt_ w' v r1∧Below w.heap.size w w':=by
 have hu25:=Tryz.underlying25;have HT:=ak_ hT;have HP:=ak_ hp;have H:=ak_ h;clear hT hp h;have HB:=ak_ (Below.refl w.heap.size w)
 go_enter Tryz.func43,Tryz.ntmps43
 go_wp2_with (first
  |((with_reducible refine gate_dst (N:=2) rfl ?_);refine bx_ 2 #[.string t0.1,.string t0.2.1,.string t0.2.2.1,.slice A30 t0.2.2.2.1.length c30,.slice A40 t0.2.2.2.2.length c40] 25 ?_;intro gt hg w1 hbox hb;have BT:=ak_ hbox;have GT:=ak_ ((by rw [hg];exact Nat.le_refl _:w.heap.size≤gt));have NE:=ak_ (fun b (hl:b<w.heap.size)=>(by omega:b≠gt));replace HT:=ak_ (TagR_.mono (P':=fun b=>b≠gt∧b<w1.heap.size) (HT.out.below hb) (fun b hl hl2=>⟨NE.out b hl,hl2⟩));replace HB:=ak_ (below_step HB.out hb);clear hb hbox hg NE;obtain⟨hc0,hc1,hc2,hc3,hc4,hf0,hf1,hf2,hf3,hf4⟩:=c5_ BT)
  |((with_reducible refine gate_dst (N:=9) rfl ?_);refine Kd.N_lit k25 _ 25 ?hg (N':=9) ?hd (xs:=[(⟨t0.1,t0.2.1,t0.2.2.1,t0.2.2.2.1,t0.2.2.2.2⟩:S25)]) (inner:=[.string t0.1,.string t0.2.1,.string t0.2.2.1,.slice A30 t0.2.2.2.1.length c30,.slice A40 t0.2.2.2.2.length c40]) (ok:=fun k=>k≠gt) (okp:=fun k=>k≠gt) ?hr ?hp (fun _ hk=>hk) (Nat.ne_of_gt (blk_lt BT.out)) (Below.refl _ _) (Nat.le_refl _) (by simp) ?_;(case hd=>rfl);(case hg=>rfl);(case hr=>first|(go_simp;done)|(go_simp;rfl));(case hp=>exact (Reps.c5 (Kd.FK_mono (TagR_.fk HT.out) (fun k hk=>hk.1)) (Reps.none _ _)));intro v6 w2 hO hb hg_ hnew_;have HO:=ak_ (Kd.N_lower hO (below_size HB.out));replace HT:=ak_ (TagR_.mono (P':=fun b=>b≠gt∧some b≠v6.ownBlock) (HT.out.below hb) (fun b hl _=>⟨hl.1,fun e=>by obtain⟨q,hq,hle⟩:=hnew_;rw [hq] at e;injection e with e;have:=hl.2;omega⟩));replace BT:=ak_ (blk_below BT.out hb);replace HB:=ak_ (below_step HB.out hb);clear hb hO hg_ hnew_ hc0 hc1 hc2 hc3 hc4 hf0 hf1 hf2 hf3 hf4))
 have GL:=ak_ (blk_lt BT.out:gt<w2.heap.size)
 go_loopg [6] n (fun kq v6 w'=>∃ (acc:List S25) (t:TagT) (A3:Option Addr) (c3:Nat) (A4:Option Addr) (c4:Nat),Aside0 (i7_chain.l0 lp m kq acc t=some (r1,r2))∧Aside0 (w'.heap[gt]?=some (.cells #[.string t.1,.string t.2.1,.string t.2.2.1,.slice A3 t.2.2.2.1.length c3,.slice A4 t.2.2.2.2.length c4] 25 (0,0)))∧Aside0 (TagR_ w' (fun b=>b≠gt∧some b≠v6.ownBlock) t A3 c3 A4 c4)∧Aside0 (Kd.N k25 25 w' w.heap.size (fun k=>k≠gt) v6 acc)∧Aside0 (Below w.heap.size w w'))
 case atStart=>exact ⟨_,t0,A30,c30,A40,c40,H,⟨BT.out⟩,⟨HT.out⟩,⟨HO.out⟩,⟨HB.out⟩⟩
 case round=>
  clear H HT BT HB HO;obtain⟨acc,t,A3,c3,A4,c4,HA,BT,HT,HO,HB⟩:=hrel;obtain⟨Ao,co,rfl⟩:=Kd.N_slice HO.out;obtain⟨hc0,hc1,hc2,hc3,hc4,hf0,hf1,hf2,hf3,hf4⟩:=c5_ BT;cases gk with
  |zero=>exact absurd HA.out (by simp [i7_chain.l0])
  | succ k1=>
   have h:=HA.out;clear HA;unfold i7_chain.l0 at h;obtain⟨b,hb0,h⟩:=Option.bind_eq_some_iff.1 h;have HR:=ak_ hb0;clear hb0;cases b with
   |true=>
    obtain h:=Option.some.inj (it_ h);obtain⟨rfl,rfl⟩:_∧_:=by simpa only [Prod.mk.injEq] using h
    clear h
    go_wp2_with (go_at_call 14;refine(i7_Root.calls m t.1 t.2.1 t.2.2.1 A3 c3 t.2.2.2.1 A4 c4 t.2.2.2.2 _ _ HT.out.1 HT.out.2.1 HT.out.2.2.1 HT.out.2.2.2.1 HR.out).mono ?_;rintro e w3 ⟨rfl,hb⟩;replace BT:=ak_ (blk_below BT.out hb);replace HT:=ak_ (HT.out.below hb);replace HO:=ak_ (Kd.N_below HO.out hb);replace HB:=ak_ (below_step HB.out hb);clear hb hc0 hc1 hc2 hc3 hc4 hf0 hf1 hf2 hf3 hf4;obtain⟨hc0,hc1,hc2,hc3,hc4,hf0,hf1,hf2,hf3,hf4⟩:=c5_ BT)
    go_ret2
    exact⟨_,rfl,⟨Ao,co,rfl,(Kd.N_reads' HO.out).2.1,(Kd.N_reads' HO.out).2.2⟩,HB.out⟩
   | false=>
    obtain⟨p,hpp,h⟩:=Option.bind_eq_some_iff.1 (if_f_ h);obtain⟨q,hq,h⟩:=Option.bind_eq_some_iff.1 h;have HPA:=ak_ hpp;have HQ:=ak_ hq;have H:=ak_ h;clear hpp hq h
    go_wp2_with (first
     |(go_at_call 14;refine(i7_Root.calls m t.1 t.2.1 t.2.2.1 A3 c3 t.2.2.2.1 A4 c4 t.2.2.2.2 _ _ HT.out.1 HT.out.2.1 HT.out.2.2.1 HT.out.2.2.2.1 HR.out).mono ?_;rintro e w3 ⟨rfl,hb⟩;replace BT:=ak_ (blk_below BT.out hb);replace HT:=ak_ (HT.out.below hb);replace HO:=ak_ (Kd.N_below HO.out hb);replace HB:=ak_ (below_step HB.out hb);clear hb hc0 hc1 hc2 hc3 hc4 hf0 hf1 hf2 hf3 hf4;obtain⟨hc0,hc1,hc2,hc3,hc4,hf0,hf1,hf2,hf3,hf4⟩:=c5_ BT)
     |(go_at_call 71;refine(i7_parent.calls m t.1 t.2.1 t.2.2.1 A3 c3 t.2.2.2.1 A4 c4 t.2.2.2.2 Ap cp lp p _ HT.out.1 HT.out.2.1 HT.out.2.2.1 HT.out.2.2.2.1 (Kd.C_below HP.out HB.out) cp' HPA.out).mono ?_;rintro e w8 ⟨v8,rfl,⟨X3,y3,X4,y4,rfl,q1,q2,q3,q4,q5,q6⟩,hb⟩;have HS:=ak_ (show gt<_ from blk_lt BT.out);have HNB:=ak_ (N_lt_ HO.out);have HPT:=ak_ (show TagR_ w8 (fun b=>b≠gt∧some b≠(Value.slice Ao acc.length co).ownBlock) p X3 y3 X4 y4 from ⟨q1,q2,q3,q4,fun ad e h0=>PR_ HS.out HNB.out HT.out.2.2.2.2.1 HT.out.2.2.2.2.2 (q5 ad e h0),fun ad e h0=>PR_ HS.out HNB.out HT.out.2.2.2.2.1 HT.out.2.2.2.2.2 (q6 ad e h0)⟩);replace BT:=ak_ (blk_below BT.out hb);replace HO:=ak_ (Kd.N_below HO.out hb);replace HB:=ak_ (below_step HB.out hb);clear hb q1 q2 q3 q4 q5 q6 HS HNB hc0 hc1 hc2 hc3 hc4 hf0 hf1 hf2 hf3 hf4;obtain⟨hc0,hc1,hc2,hc3,hc4,hf0,hf1,hf2,hf3,hf4⟩:=c5_ BT))
    go_loopg [7] m (fun kq v7 w'=>∃ (i:Nat),v7=.int .i64 (i:Int)∧Aside0 (i7_chain.l1 m acc p kq i=some q)∧Aside0 (w'.heap[gt]?=some (.cells #[.string p.1,.string p.2.1,.string p.2.2.1,.slice X3 p.2.2.2.1.length y3,.slice X4 p.2.2.2.2.length y4] 25 (0,0)))∧Aside0 (TagR_ w' (fun b=>b≠gt∧some b≠(Value.slice Ao acc.length co).ownBlock) p X3 y3 X4 y4)∧Aside0 (Kd.N k25 25 w' w.heap.size (fun k=>k≠gt) (.slice Ao acc.length co) acc)∧Aside0 (Below w.heap.size w w'))
    case atStart=>exact ⟨0,rfl,HQ,⟨TgB.put BT.out⟩,⟨HPT.out.same (fun b hb _=>set5_ b hb.1)⟩,⟨Kd.N_far (Kd.N_far (Kd.N_far (Kd.N_far (Kd.N_far HO.out (p:=⟨gt,0,none⟩) (fun k hk=>hk) _) (p:=⟨gt,1,none⟩) (fun k hk=>hk) _) (p:=⟨gt,2,none⟩) (fun k hk=>hk) _) (p:=⟨gt,3,none⟩) (fun k hk=>hk) _) (p:=⟨gt,4,none⟩) (fun k hk=>hk) _⟩,⟨below_set (below_set (below_set (below_set (below_set HB.out GT.out) GT.out) GT.out) GT.out) GT.out⟩⟩
    case round=>
     clear HQ HPT BT HB HO HT hc0 hc1 hc2 hc3 hc4 hf0 hf1 hf2 hf3 hf4;obtain⟨i,rfl,HA,BT,HT,HO,HB⟩:=hrel;obtain⟨hc0,hc1,hc2,hc3,hc4,hf0,hf1,hf2,hf3,hf4⟩:=c5_ BT;cases gk with
     |zero=>exact absurd HA.out (by simp [i7_chain.l1])
     | succ k2=>
      have h:=HA.out;clear HA;unfold i7_chain.l1 at h;by_cases hi:i<acc.length
      ·obtain ⟨b,hb0,h⟩:=Option.bind_eq_some_iff.1 ((if_pos hi).symm.trans h)
       have HSA:=ak_ hb0;clear hb0;have e1:decide ((i:Int)<(acc.length:Int))=true:=decide_eq_true (by omega)
       have e2:((i:Int)<(acc.length:Int))=True:=eq_true (by omega)
       have e3:(0≤(i:Int))=True:=eq_true (by omega)
       have hCo:=(Kd.N_reads' HO.out).2.2;have hlm:=hCo.2.1;obtain⟨ad,B3,d3,B4,d4,e45,x0,x1,x2,x3,x4,l3,g3,l4,g4⟩:=at_T25 hCo (i:Int) (by omega) (by omega)
       subst e45;simp only [Int.toNat_natCast] at x0 x1 x2 x3 x4;have G3:=ak_ g3;have G4:=ak_ g4;have HLM:=ak_ hlm;clear g3 g4 hCo hlm
       go_upto_region 7 with fail
       have BT1:=ak_ (blk_drew BT.out);refine st_ (S:=fun w'=>S5 gt (.string p.1) (.string p.2.1) (.string p.2.2.1) (.slice X3 p.2.2.2.1.length y3) (.slice X4 p.2.2.2.2.length y4) w'∧w'.cell? (ad.add (i*5))=some (.string (rd_T25 acc (i:Int)).f0)∧w'.cell? ⟨(ad.add (i*5)).block,(ad.add (i*5)).off+1,none⟩=some (.string (rd_T25 acc (i:Int)).f1)∧w'.cell? ⟨(ad.add (i*5)).block,(ad.add (i*5)).off+2,none⟩=some (.string (rd_T25 acc (i:Int)).f2)∧w'.cell? ⟨(ad.add (i*5)).block,(ad.add (i*5)).off+3,none⟩=some (.slice B3 (rd_T25 acc (i:Int)).f3.length d3)∧w'.cell? ⟨(ad.add (i*5)).block,(ad.add (i*5)).off+4,none⟩=some (.slice B4 (rd_T25 acc (i:Int)).f4.length d4)) (ds:=[]) 6 i7_chain.tab7 i7_chain.bits7 ⟨s5_ BT1,x0,x1,x2,x3,x4⟩ (fun hHeld HT_ HW_=>?_);have HT1:=ak_ (HT.out.below (below_drew1 (Below.refl _ _)));have HO1:=ak_ (Kd.N_drew HO.out);have HB1:=ak_ (below_drew1 HB.out);have G31:=ak_ (Kd.C_below G3.out (below_drew1 (Below.refl _ _)));have G41:=ak_ (Kd.C_below G4.out (below_drew1 (Below.refl _ _)));generalize World.drew _=w18 at BT1 HT1 HO1 HB1 G31 G41 hHeld ⊢
       iterate 5 (first|refine pu_ HT_ ?_|refine tk_ HT_ HW_ hHeld ?_)
       refine cg_ 5 (bmp 6 6) (some 27) Tryz.func13 #[.agg #[.string (rd_T25 acc (i:Int)).f0,.string (rd_T25 acc (i:Int)).f1,.string (rd_T25 acc (i:Int)).f2,.slice B3 (rd_T25 acc (i:Int)).f3.length d3,.slice B4 (rd_T25 acc (i:Int)).f4.length d4],.agg #[.string p.1,.string p.2.1,.string p.2.2.1,.slice X3 p.2.2.2.1.length y3,.slice X4 p.2.2.2.2.length y4]] HT_ ?_;refine(i7_Same.calls m _ _ _ B3 d3 _ B4 d4 _ p.1 p.2.1 p.2.2.1 X3 y3 p.2.2.2.1 X4 y4 p.2.2.2.2 b _ G31.out l3 G41.out l4 HT1.out.1 HT1.out.2.1 HT1.out.2.2.1 HT1.out.2.2.2.1 HSA.out).mono ?_;rintro e w19 ⟨rfl,hb⟩;have BT2:=ak_ (blk_below BT1.out hb);have HT2:=ak_ (HT1.out.below hb);have HO2:=ak_ (Kd.N_below HO1.out hb);have HB2:=ak_ (below_step HB1.out hb);refine⟨_,rfl,⟨s5_ BT2,(hb.cell (World.block_lt_of_cell? _ _ hHeld.2.1)).trans hHeld.2.1,(hb.cell (World.block_lt_of_cell? _ _ hHeld.2.2.1)).trans hHeld.2.2.1,(hb.cell (World.block_lt_of_cell? _ _ hHeld.2.2.2.1)).trans hHeld.2.2.2.1,(hb.cell (World.block_lt_of_cell? _ _ hHeld.2.2.2.2.1)).trans hHeld.2.2.2.2.1,(hb.cell (World.block_lt_of_cell? _ _ hHeld.2.2.2.2.2)).trans hHeld.2.2.2.2.2⟩,fun hHeld=>nm_ ?_⟩;refine dg_ HT_ ?_;clear BT HT HO HB BT1 HT1 HO1 HB1 G31 G41 G3 G4 hb hHeld HT_ HW_ x0 x1 x2 x3 x4 hc0 hc1 hc2 hc3 hc4 hf0 hf1 hf2 hf3 hf4;cases b with
       |true=>
        obtain rfl:=Option.some.inj (it_ h);obtain h2:=Option.some.inj (it_ H.out);obtain⟨rfl,rfl⟩:_∧_:=by simpa only [Prod.mk.injEq] using h2
        go_wp2
        go_ret2
        exact⟨_,rfl,⟨none,0,rfl,Nat.le_refl _,Kd.C_nil _ _⟩,HB2.out⟩
       |false=>
        have hw1:IntKind.i64.wrap ((i:Int)+1)=((i+1:Nat):Int):=by have:=HLM.out;simp [IntKind.wrap,IntKind.bits,IntKind.signed];omega
        go_wp2
        go_roundg k2
        case measure=>omega
        case rel=>exact ⟨i+1,by go_num,⟨if_f_ h⟩,⟨BT2.out⟩,⟨HT2.out⟩,⟨HO2.out⟩,⟨HB2.out⟩⟩
      ·have e1:decide ((i:Int)<(acc.length:Int))=false:=decide_eq_false (by omega)
       have e4:decide (i<acc.length)=false:=decide_eq_false hi;obtain rfl:=Option.some.inj ((if_neg hi).symm.trans h);have h2:=if_f_ H.out;by_cases hn:acc.length<1000000000000
       ·have h3:=(if_pos hn).symm.trans h2
        have HN:=ak_ hn;clear h h2
        go_wp2_with ((with_reducible refine gate_builtin (b:=.append) (xs:=#[.tmp 28,.tmp 30]) rfl ?_);at_builtin;refine Kd.N_append k25 (w0:=w) w.heap.size rfl (.tmp 28) (.tmp 30) 26 25 (.agg #[(.string ⟨#[]⟩),(.string ⟨#[]⟩),(.string ⟨#[]⟩),(.slice none 0 0),(.slice none 0 0)]) 96 rfl Tryz.underlying26 info25 rfl (by decide) (by omega) (.slice Ao acc.length co) acc (⟨p.1,p.2.1,p.2.2.1,p.2.2.2.1,p.2.2.2.2⟩:S25) [.string p.1,.string p.2.1,.string p.2.2.1,.slice X3 p.2.2.2.1.length y3,.slice X4 p.2.2.2.2.length y4] (fun k=>k≠gt) (fun k=>k≠gt∧some k≠(Value.slice Ao acc.length co).ownBlock) rfl (by first|(go_simp;done)|(go_simp;rfl)) ?aP (fun _ hk=>hk) ?aF ?aO ?aB ?aS ?aL ?_;(case aP=>exact TagR_.fk HT.out);(case aF=>exact (fun k hk=>by have:=blk_lt BT.out;omega));(case aO=>exact HO.out);(case aB=>exact HB.out);(case aS=>exact below_size HB.out);(case aL=>exact (by have:=HN.out;omega));intro v1 w7 hO hb hg hat;have HNE:=ak_ (fun k (hk:some k=v1.ownBlock)=>(hO.1 k hk.symm:k≠gt));replace HT:=ak_ ((((HT.out.mono (P':=fun b=>(b≠gt∧some b≠(Value.slice Ao acc.length co).ownBlock)∧b<(World.heap _).size) (fun b hb hl=>⟨hb,hl⟩)).same (fun b hb hl=>hg.block b hl hb.1.2)).mono (P':=fun b=>b≠gt∧some b≠v1.ownBlock) (fun b hb _=>⟨hb.1.1,NB_ hat hb.1.2 hb.2⟩)));replace BT:=ak_ (blk_grown BT.out hg (fun e=>HO.out.1 gt e.symm rfl));replace HO:=ak_ hO;replace HB:=ak_ hb;clear hO hb hg hat hc0 hc1 hc2 hc3 hc4 hf0 hf1 hf2 hf3 hf4)
        go_roundg k1
        case measure=>omega
        case rel=>exact ⟨_,p,X3,y3,X4,y4,⟨h3⟩,⟨BT.out⟩,⟨HT.out⟩,⟨HO.out⟩,⟨HB.out⟩⟩
       ·cases (if_neg hn).symm.trans h2
def i7_Chain.f (k:Nat) (aC:ByteArray) (aD:ByteArray) (aE:ByteArray) (aA:List ByteArray) (aB:List S39) (l1:List S45):Option ((List S25)×Int):=
 (i7_Check.f k aC aD aE aA aB).bind fun e=>if e=0 then(i7_pairs.f k l1).bind fun q=>if q=0 then i7_chain.l0 l1 k k [⟨aC,aD,aE,aA,aB⟩] (aC,aD,aE,aA,aB) else some ([],q) else some ([],e)
set_option maxHeartbeats 8000000 in
set_option maxRecDepth 100000 in
theorem i7_Chain.calls (k:Nat) (aC:ByteArray) (aD:ByteArray) (aE:ByteArray) (aF:Option Addr) (aG:Nat) (aA:List ByteArray) (aH:Option Addr) (aI:Nat) (aB:List S39) (A1:Option Addr) (c1:Nat) (l1:List S45) (r1:List S25) (r2:Int) (w:World) (hr0_3:Kd.C Kd.string w aF aA.length aA) (hc0_3:aA.length≤aG) (hr0_4:Kd.C k39 w aH aB.length aB) (hc0_4:aB.length≤aI) (hr1:Kd.C k45 w A1 l1.length l1) (hc1:l1.length≤c1) (h:i7_Chain.f k aC aD aE aA aB l1=some (r1,r2)):
 Calls Tryz.prog 19 #[.agg #[.string aC,.string aD,.string aE,.slice aF aA.length aG,.slice aH aB.length aI],.slice A1 l1.length c1] w fun e w'=>∃ v0_:Value,e=.returned (.tuple #[v0_,.int .i64 r2])∧TagsAt_ w' v0_ r1∧Below w.heap.size w w':=by
 have hu25:=Tryz.underlying25;have HV:=ak_ hr0_3;have HK:=ak_ hr0_4;have HP:=ak_ hr1;have HB:=ak_ (Below.refl w.heap.size w);clear hr0_3 hr0_4 hr1;unfold i7_Chain.f at h;obtain⟨e,he,h⟩:=Option.bind_eq_some_iff.1 h;have HE:=ak_ he;clear he;by_cases h0:e=0
 ·replace h:=(if_pos h0).symm.trans h
  subst h0;obtain⟨e2,hq,h⟩:=Option.bind_eq_some_iff.1 h;have HQ:=ak_ hq;clear hq;by_cases h2:e2=0
  ·replace h:=(if_pos h2).symm.trans h
   subst h2;have H:=ak_ h;clear h
   go_enter Tryz.func19,Tryz.ntmps19
   go_wp2_with (first
    |((with_reducible refine gate_dst (N:=2) rfl ?_);refine bx_ 2 #[.string aC,.string aD,.string aE,.slice aF aA.length aG,.slice aH aB.length aI] 25 ?_;intro gt hg w1 hbox hb;have BT:=ak_ hbox;replace HB:=ak_ (below_step HB.out hb);clear hb hbox hg;obtain⟨hc0,hc1',hc2,hc3,hc4,hf0,hf1,hf2,hf3,hf4⟩:=c5_ BT)
    |(go_at_call 11;refine(i7_Check.calls k aC aD aE aF aG aA aH aI aB _ _ (Kd.C_below HV.out HB.out) hc0_3 (Kd.C_below HK.out HB.out) hc0_4 HE.out).mono ?_;rintro _ w2 ⟨rfl,hb⟩;replace BT:=ak_ (blk_below BT.out hb);replace HB:=ak_ (below_step HB.out hb);clear hb hc0 hc1' hc2 hc3 hc4 hf0 hf1 hf2 hf3 hf4;obtain⟨hc0,hc1',hc2,hc3,hc4,hf0,hf1,hf2,hf3,hf4⟩:=c5_ BT)
    |(go_at_call 42;refine(i7_pairs.calls k A1 c1 l1 _ _ (Kd.C_below HP.out HB.out) hc1 HQ.out).mono ?_;rintro _ w3 ⟨rfl,hb⟩;replace BT:=ak_ (blk_below BT.out hb);replace HB:=ak_ (below_step HB.out hb);clear hb hc0 hc1' hc2 hc3 hc4 hf0 hf1 hf2 hf3 hf4;obtain⟨hc0,hc1',hc2,hc3,hc4,hf0,hf1,hf2,hf3,hf4⟩:=c5_ BT)
    |(go_at_call 43;refine(i7_chain.calls k k (aC,aD,aE,aA,aB) aF aG aH aI A1 c1 l1 r1 r2 _ (TagR_.mono (P:=fun _=>True) ⟨Kd.C_below HV.out HB.out,hc0_3,Kd.C_below HK.out HB.out,hc0_4,fun _ _ _=>trivial,fun _ _ _=>trivial⟩ (fun b _ hl=>hl)) (Kd.C_below HP.out HB.out) hc1 H.out).mono ?_;rintro e w4 ⟨v,rfl,hR,hb⟩;have HR:=ak_ hR;replace HB:=ak_ (below_step HB.out hb);clear hR hb hc0 hc1' hc2 hc3 hc4 hf0 hf1 hf2 hf3 hf4))
   go_ret2
   exact⟨_,rfl,HR.out,HB.out⟩
  ·obtain h:=Option.some.inj ((if_neg h2).symm.trans h)
   obtain⟨rfl,rfl⟩:_∧_:=by simpa only [Prod.mk.injEq] using h
   have d1:(e2==0)=false:=beq_eq_false_iff_ne.mpr h2;have d2:(e2 != 0)=true:=bne_iff_ne.mpr h2;clear h
   go_enter Tryz.func19,Tryz.ntmps19
   go_wp2_with (first
    |((with_reducible refine gate_dst (N:=2) rfl ?_);refine bx_ 2 #[.string aC,.string aD,.string aE,.slice aF aA.length aG,.slice aH aB.length aI] 25 ?_;intro gt hg w1 hbox hb;have BT:=ak_ hbox;replace HB:=ak_ (below_step HB.out hb);clear hb hbox hg;obtain⟨hc0,hc1',hc2,hc3,hc4,hf0,hf1,hf2,hf3,hf4⟩:=c5_ BT)
    |(go_at_call 11;refine(i7_Check.calls k aC aD aE aF aG aA aH aI aB _ _ (Kd.C_below HV.out HB.out) hc0_3 (Kd.C_below HK.out HB.out) hc0_4 HE.out).mono ?_;rintro _ w2 ⟨rfl,hb⟩;replace BT:=ak_ (blk_below BT.out hb);replace HB:=ak_ (below_step HB.out hb);clear hb hc0 hc1' hc2 hc3 hc4 hf0 hf1 hf2 hf3 hf4;obtain⟨hc0,hc1',hc2,hc3,hc4,hf0,hf1,hf2,hf3,hf4⟩:=c5_ BT)
    |(go_at_call 42;refine(i7_pairs.calls k A1 c1 l1 _ _ (Kd.C_below HP.out HB.out) hc1 HQ.out).mono ?_;rintro _ w3 ⟨rfl,hb⟩;replace BT:=ak_ (blk_below BT.out hb);replace HB:=ak_ (below_step HB.out hb);clear hb hc0 hc1' hc2 hc3 hc4 hf0 hf1 hf2 hf3 hf4;obtain⟨hc0,hc1',hc2,hc3,hc4,hf0,hf1,hf2,hf3,hf4⟩:=c5_ BT))
   go_ret2
   exact⟨_,rfl,⟨none,0,rfl,Nat.le_refl _,Kd.C_nil _ _⟩,HB.out⟩
 ·obtain h:=Option.some.inj ((if_neg h0).symm.trans h)
  obtain⟨rfl,rfl⟩:_∧_:=by simpa only [Prod.mk.injEq] using h
  have d1:(e==0)=false:=beq_eq_false_iff_ne.mpr h0;have d2:(e != 0)=true:=bne_iff_ne.mpr h0;clear h
  go_enter Tryz.func19,Tryz.ntmps19
  go_wp2_with (first
   |((with_reducible refine gate_dst (N:=2) rfl ?_);refine bx_ 2 #[.string aC,.string aD,.string aE,.slice aF aA.length aG,.slice aH aB.length aI] 25 ?_;intro gt hg w1 hbox hb;have BT:=ak_ hbox;replace HB:=ak_ (below_step HB.out hb);clear hb hbox hg;obtain⟨hc0,hc1',hc2,hc3,hc4,hf0,hf1,hf2,hf3,hf4⟩:=c5_ BT)
   |(go_at_call 11;refine(i7_Check.calls k aC aD aE aF aG aA aH aI aB _ _ (Kd.C_below HV.out HB.out) hc0_3 (Kd.C_below HK.out HB.out) hc0_4 HE.out).mono ?_;rintro _ w2 ⟨rfl,hb⟩;replace BT:=ak_ (blk_below BT.out hb);replace HB:=ak_ (below_step HB.out hb);clear hb hc0 hc1' hc2 hc3 hc4 hf0 hf1 hf2 hf3 hf4;obtain⟨hc0,hc1',hc2,hc3,hc4,hf0,hf1,hf2,hf3,hf4⟩:=c5_ BT))
  go_ret2
  exact⟨_,rfl,⟨none,0,rfl,Nat.le_refl _,Kd.C_nil _ _⟩,HB.out⟩
theorem info45:(Tryz.prog.info? 45).map (fun i=>(i.zero,i.size,i.bytes))=some (some (.agg #[(.string ⟨#[]⟩),(.string ⟨#[]⟩)]),2,32):=by kernel_rfl
end Go.Proofs.YtphjhbppjakocaaGreatDoor.PTag
