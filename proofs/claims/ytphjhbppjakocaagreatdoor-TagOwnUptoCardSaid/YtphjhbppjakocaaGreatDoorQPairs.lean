/- Several texts of this claim in one: QPairs, QMaps, QChn, QPlc, QChain, QRpar; conditions: those that each theorem states. -/
import Derived.Test.YtphjhbppjakocaaGreatDoorWInv
import Derived.Test.YtphjhbppjakocaaGreatDoorPl1
import Derived.Test.YtphjhbppjakocaaGreatDoorPU17
import Derived.Test.YtphjhbppjakocaaGreatDoorRPut
import Derived.Test.YtphjhbppjakocaaGreatDoorRParse
import Derived.Test.YtphjhbppjakocaaGreatDoorWN
import Derived.Test.YtphjhbppjakocaaGreatDoorQBare
import Derived.Maps.OwnSet
import Derived.Test.YtphjhbppjakocaaGreatDoorQCopied
import Derived.Test.YtphjhbppjakocaaGreatDoorPU13
set_option linter.unusedVariables false
set_option linter.unusedSimpArgs false
namespace Go.Proofs.YtphjhbppjakocaaGreatDoor.PTag
open Go.RowKit Go.Proofs.YtphjhbppjakocaaGreatDoorW.PrintWords Go.Proofs.YtphjhbppjakocaaGreatDoorW.PrintLast Go.Proofs.YtphjhbppjakocaaGreatDoorW.PrintMore Go.WideShapes Go.ChangeMaps
def twice_ (lp:List S45) (i:Nat):Bool:=(lp.take i).any fun q=>q.f0.toList==(rd_T45 lp (i:Int)).f0.toList
def i7_pairs.l0 (m:Nat) (lp:List S45):Nat→Nat→Option Int
 |0,_=>none
 |k+1,i=>if i<lp.length then(i7_canonical.f m (rd_T45 lp (i:Int)).f0).bind fun c=>(i7_canonical.f m (rd_T45 lp (i:Int)).f1).bind fun p=>
  if c.2.2.2.2.2=true then(if p.2.2.2.2.2=true then(i7_Root.f m c.1 c.2.1 c.2.2.1 c.2.2.2.1 c.2.2.2.2.1).bind fun t=>if t=true then some 70 else if twice_ lp i=true then some 6 else i7_pairs.l0 m lp k (i+1) else some 70) else some 70
  else some 0
def i7_pairs.f (m:Nat) (lp:List S45):Option Int:=if 256<lp.length then some 5 else i7_pairs.l0 m lp m 0
theorem twice_no {lp:List S45} {i:Nat} {j:Nat} (h:∀ a,a<j→¬ (rd_T45 lp (a:Int)).f0.toList=(rd_T45 lp (i:Int)).f0.toList) (hij:i≤j) (hi:i<lp.length):twice_ lp i=false:=by
 unfold twice_;rw [List.any_eq_false];intro q hq;obtain⟨a,ha,rfl⟩:=List.getElem_of_mem hq;rw [List.length_take] at ha;have h1:=h a (by omega)
 have e:rd_T45 lp (a:Int)=lp[a]'(by omega):=by simp [rd_T45,show a<lp.length by omega]
 rw [e] at h1;simpa using h1
theorem twice_yes {lp:List S45} {i j:Nat} (h:(rd_T45 lp (j:Int)).f0.toList=(rd_T45 lp (i:Int)).f0.toList) (hj:j<i) (hi:i<lp.length):twice_ lp i=true:=by
 unfold twice_;rw [List.any_eq_true];have e:rd_T45 lp (j:Int)=lp[j]'(by omega):=by simp [rd_T45,show j<lp.length by omega]
 refine⟨lp[j]'(by omega),List.mem_take_iff_getElem.2 ⟨j,by omega,rfl⟩,?_⟩
 rw [← e];simpa using h
set_option maxHeartbeats 8000000 in
set_option maxRecDepth 100000 in
theorem i7_pairs.calls (m:Nat) (Ap:Option Addr) (cp:Nat) (lp:List S45) (r:Int) (w:World) (hp:Kd.C k45 w Ap lp.length lp) (cp':lp.length≤cp) (h:i7_pairs.f m lp=some r):
 Calls Tryz.prog 42 #[.slice Ap lp.length cp] w fun e w'=>e=.returned (.int .i64 r)∧Below w.heap.size w w':=by
 have HP:=ak_ hp;have HB:=ak_ (Below.refl w.heap.size w);unfold i7_pairs.f at h;by_cases h1:256<lp.length
 ·obtain rfl:=Option.some.inj ((if_pos h1).symm.trans h)
  have d1:decide (256<(lp.length:Int))=true:=decide_eq_true (by omega)
  have d2:decide (256<lp.length)=true:=decide_eq_true h1;clear h h1
  go_enter Tryz.func42,Tryz.ntmps42
  go_wp2
  go_ret
  exact⟨rfl,Below.refl _ _⟩
 ·have H :=ak_ ((if_neg h1).symm.trans h)
  have d1:decide (256<(lp.length:Int))=false:=decide_eq_false (by omega)
  have d2:decide (256<lp.length)=false:=decide_eq_false h1;clear h hp
  go_enter Tryz.func42,Tryz.ntmps42
  go_wp2
  go_loopg [3] m (fun kq v3 w'=>∃ i:Nat,v3=.int .i64 (i:Int)∧Aside0 (i7_pairs.l0 m lp kq i=some r)∧Aside0 (i≤lp.length)∧Aside0 (Below w.heap.size w w'))
  case atStart=>exact ⟨0,rfl,H,⟨Nat.zero_le _⟩,⟨HB.out⟩⟩
  case round=>
   clear H HB;obtain⟨i,rfl,HA,HI,HB⟩:=hrel;cases gk with
   |zero=>exact absurd HA.out (by simp [i7_pairs.l0])
   | succ k1=>
    have h:=HA.out;clear HA;unfold i7_pairs.l0 at h;by_cases hi:i<lp.length
    ·replace h:=(if_pos hi).symm.trans h
     have e1:decide ((i:Int)<(lp.length:Int))=true:=decide_eq_true (by omega)
     have e2:((i:Int)<(lp.length:Int))=True:=eq_true (by omega)
     have e3:(0≤(i:Int))=True:=eq_true (by omega)
     obtain⟨c,hc,h⟩:=Option.bind_eq_some_iff.1 h;obtain⟨p,hpp,h⟩:=Option.bind_eq_some_iff.1 h;have HC:=ak_ hc;have HPP:=ak_ hpp;have H:=ak_ h;obtain⟨ad,e45,hx0,hx1⟩:=at_T45 HP.out (i:Int) (by omega) (by omega)
     subst e45;simp only [Int.toNat_natCast] at hx0 hx1;have HX0:=ak_ hx0;have HX1:=ak_ hx1;replace hx0:=hx_ HB.out hx0;clear hx1 hc hpp h
     go_upto_region 7 with (first
      |(go_at_call 70;refine(i7_canonical.calls m (rd_T45 lp (i:Int)).f0 c.1 c.2.1 c.2.2.1 c.2.2.2.1 c.2.2.2.2.1 c.2.2.2.2.2 _ HC.out).mono ?_;rintro e w3 ⟨v3,v4,rfl,hV3,hV4,hb⟩;obtain⟨B3,d3,rfl,_⟩:=id hV3;obtain⟨B4,d4,rfl,_⟩:=id hV4;have HC3:=ak_ (Kd.V_reads' hV3).2;have HC4:=ak_ (Kd.V_reads' hV4).2;have HL:=ak_ (Below.refl w3.heap.size w3);replace HB:=ak_ (below_step HB.out hb);clear hV3 hV4 hb hx0)
      |((with_reducible refine gate_dst (N:=4) rfl ?_);refine bx_ 4 #[.string ⟨#[]⟩,.string ⟨#[]⟩,.string ⟨#[]⟩,.slice none 0 0,.slice none 0 0] 25 ?_;intro gc hg w4 hbox hb;have BC:=ak_ hbox;have GC:=ak_ ((by rw [hg];exact below_size HL.out:w3.heap.size≤gc));replace HL:=ak_ (below_step HL.out hb);clear hb hbox hg;obtain⟨rc0,rc1,rc2,rc3,rc4,rf0,rf1,rf2,rf3,rf4⟩:=c5_ BC))
     have HL2:=below_set (below_set (below_set (below_set (below_set HL.out GC.out (j:=0) (v:=.string c.1)) GC.out (j:=1) (v:=.string c.2.1)) GC.out (j:=2) (v:=.string c.2.2.1)) GC.out (j:=3) (v:=(.slice B3 c.2.2.2.1.length d3))) GC.out (j:=4) (v:=(.slice B4 c.2.2.2.2.1.length d4));replace HC3:=ak_ (⟨HC3.out.1,Kd.C_below HC3.out.2 HL2⟩:_∧_);replace HC4:=ak_ (⟨HC4.out.1,Kd.C_below HC4.out.2 HL2⟩:_∧_);replace HB:=ak_ (below_step HB.out HL2);have BC2:=TgB.put (l':=c.1) (s':=c.2.1) (r':=c.2.2.1) (V3':=(.slice B3 c.2.2.2.1.length d3)) (V4':=(.slice B4 c.2.2.2.2.1.length d4)) (show TgB w4 gc ⟨#[]⟩ ⟨#[]⟩ ⟨#[]⟩ (.slice none 0 0) (.slice none 0 0) from BC.out)
     clear BC HL HL2 rc0 rc1 rc2 rc3 rc4 rf0 rf1 rf2 rf3 rf4;have BC:=ak_ BC2;clear BC2;generalize (((((w4.setCell ⟨gc,0,none⟩ (.string c.1)).setCell ⟨gc,1,none⟩ (.string c.2.1)).setCell ⟨gc,2,none⟩ (.string c.2.2.1)).setCell ⟨gc,3,none⟩ (.slice B3 c.2.2.2.1.length d3)).setCell ⟨gc,4,none⟩ (.slice B4 c.2.2.2.2.1.length d4))=w5 at BC HB HC3 HC4 ⊢;have hx1:=(HB.out.cell (World.block_lt_of_cell? w _ HX1.out)).trans HX1.out
     go_upto_region 8 with (first
      |(go_at_call 70;refine(i7_canonical.calls m (rd_T45 lp (i:Int)).f1 p.1 p.2.1 p.2.2.1 p.2.2.2.1 p.2.2.2.2.1 p.2.2.2.2.2 _ HPP.out).mono ?_;rintro e w6 ⟨u3,u4,rfl,hV3,hV4,hb⟩;obtain⟨B5,d5,rfl,_⟩:=id hV3;obtain⟨B6,d6,rfl,_⟩:=id hV4;have HL:=ak_ (below_step (Below.refl w5.heap.size w5) hb);clear hV3 hV4 hb hx1)
      |((with_reducible refine gate_dst (N:=6) rfl ?_);refine bx_ 6 #[.string ⟨#[]⟩,.string ⟨#[]⟩,.string ⟨#[]⟩,.slice none 0 0,.slice none 0 0] 25 ?_;intro gq hg w7 hbox hb;have BQ:=ak_ hbox;have GQ:=ak_ ((by rw [hg];exact below_size HL.out:w5.heap.size≤gq));replace HL:=ak_ (below_step HL.out hb);clear hb hbox hg;obtain⟨rc0,rc1,rc2,rc3,rc4,rf0,rf1,rf2,rf3,rf4⟩:=c5_ BQ))
     have HL2:=below_set (below_set (below_set (below_set (below_set HL.out GQ.out (j:=0) (v:=.string p.1)) GQ.out (j:=1) (v:=.string p.2.1)) GQ.out (j:=2) (v:=.string p.2.2.1)) GQ.out (j:=3) (v:=(.slice B5 p.2.2.2.1.length d5))) GQ.out (j:=4) (v:=(.slice B6 p.2.2.2.2.1.length d6));replace HC3:=ak_ (⟨HC3.out.1,Kd.C_below HC3.out.2 HL2⟩:_∧_);replace HC4:=ak_ (⟨HC4.out.1,Kd.C_below HC4.out.2 HL2⟩:_∧_);replace HB:=ak_ (below_step HB.out HL2);replace BC:=ak_ (blk_below BC.out HL2);clear BQ HL HL2 rc0 rc1 rc2 rc3 rc4 rf0 rf1 rf2 rf3 rf4;generalize (((((w7.setCell ⟨gq,0,none⟩ (.string p.1)).setCell ⟨gq,1,none⟩ (.string p.2.1)).setCell ⟨gq,2,none⟩ (.string p.2.2.1)).setCell ⟨gq,3,none⟩ (.slice B5 p.2.2.2.1.length d5)).setCell ⟨gq,4,none⟩ (.slice B6 p.2.2.2.2.1.length d6))=w8 at BC HB HC3 HC4 ⊢;obtain⟨rc0,rc1,rc2,rc3,rc4,rf0,rf1,rf2,rf3,rf4⟩:=c5_ BC;cases hcb:c.2.2.2.2.2 with
     |false=>
      rw [hcb] at H;obtain rfl:=Option.some.inj ((if_neg (by simp)).symm.trans H.out)
      go_wp2
      go_ret
      exact⟨rfl,HB.out⟩
     | true=>
      rw [hcb] at H;replace H:=ak_ ((if_pos rfl).symm.trans H.out);cases hpb:p.2.2.2.2.2 with
      |false=>
       rw [hpb] at H;obtain rfl:=Option.some.inj ((if_neg (by simp)).symm.trans H.out)
       go_wp2
       go_ret
       exact⟨rfl,HB.out⟩
      | true=>
       rw [hpb] at H;obtain⟨t,ht,h⟩:=Option.bind_eq_some_iff.1 ((if_pos rfl).symm.trans H.out);have HT:=ak_ ht;clear H ht;cases t with
       |true=>
        obtain rfl:=Option.some.inj (it_ h);clear h
        go_wp2_with ((go_at_call 14;refine(i7_Root.calls m c.1 c.2.1 c.2.2.1 B3 d3 c.2.2.2.1 B4 d4 c.2.2.2.2.1 _ _ HC3.out.2 HC3.out.1 HC4.out.2 HC4.out.1 HT.out).mono ?_;rintro e w9 ⟨rfl,hb⟩;replace HB:=ak_ (below_step HB.out hb);clear hb rc0 rc1 rc2 rc3 rc4 rf0 rf1 rf2 rf3 rf4))
        go_ret
        exact⟨rfl,HB.out⟩
       | false=>
        have H:=ak_ (if_f_ h);clear h
        go_wp2_with ((go_at_call 14;refine(i7_Root.calls m c.1 c.2.1 c.2.2.1 B3 d3 c.2.2.2.1 B4 d4 c.2.2.2.2.1 _ _ HC3.out.2 HC3.out.1 HC4.out.2 HC4.out.1 HT.out).mono ?_;rintro e w9 ⟨rfl,hb⟩;replace HB:=ak_ (below_step HB.out hb);clear hb rc0 rc1 rc2 rc3 rc4 rf0 rf1 rf2 rf3 rf4))
        go_loopg [8] (i+1) (fun kq v8 w'=>∃ j:Nat,v8=.int .i64 (j:Int)∧Aside0 (kq+j=i+1)∧Aside0 (∀ a,a<j→¬ (rd_T45 lp (a:Int)).f0.toList=(rd_T45 lp (i:Int)).f0.toList)∧Aside0 (Below w.heap.size w w'))
        case atStart=>exact ⟨0,rfl,⟨rfl⟩,⟨fun a ha=>absurd ha (by omega)⟩,⟨HB.out⟩⟩
        case round=>
         clear HB;obtain⟨j,rfl,HK,HN,HB⟩:=hrel;by_cases hj:j<i
         ·obtain ⟨g1,rfl⟩:∃ g1,gk=g1+1:=⟨i - j,by have:=HK.out;omega⟩
          have q1:decide ((j:Int)<(i:Int))=true:=decide_eq_true (by omega)
          have q2:((j:Int)<(lp.length:Int))=True:=eq_true (by omega)
          have q3:(0≤(j:Int))=True:=eq_true (by omega)
          have hy0:=(HB.out.cell (World.block_lt_of_cell? w _ HX0.out)).trans HX0.out;obtain⟨ad2,e46,hz0,_⟩:=at_T45 HP.out (j:Int) (by omega) (by omega)
          obtain rfl:ad=ad2:=by injection e46
          simp only [Int.toNat_natCast] at hz0;replace hz0:=hx_ HB.out hz0;by_cases he:(rd_T45 lp (j:Int)).f0.toList=(rd_T45 lp (i:Int)).f0.toList
          ·have e4:=eq2_ he
           obtain⟨e5,e6⟩:=e4;obtain rfl:=Option.some.inj ((if_pos (twice_yes he hj hi)).symm.trans H.out)
           go_wp2
           repeat (go_quiet (fail);try go_wp2)
           go_ret
           exact⟨rfl,by repeat (first|exact HB.out|apply pw_below_drewN|apply below_drew1)⟩
          ·obtain ⟨e5,e6⟩:=ne2_ he
           have hw1:IntKind.i64.wrap ((j:Int)+1)=((j+1:Nat):Int):=by have:=HP.out.2.1;simp [IntKind.wrap,IntKind.bits,IntKind.signed];omega
           go_wp2
           repeat (go_quiet (fail);try go_wp2)
           go_roundg g1
           case measure=>omega
           case rel=>exact ⟨j+1,by go_num,⟨by have:=HK.out;omega⟩,⟨fun a ha=>(Nat.lt_succ_iff_lt_or_eq.1 ha).elim (HN.out a) (fun h=>by rw [h];exact he)⟩,⟨by repeat (first|exact HB.out|apply pw_below_drewN|apply below_drew1)⟩⟩
         ·have q1:decide ((j:Int)<(i:Int))=false:=decide_eq_false (by omega)
          have q4:decide (j<i)=false:=decide_eq_false hj;have H2:=ak_ ((if_neg (by rw [twice_no HN.out (by omega) hi];simp)).symm.trans H.out)
          go_wp2
          go_roundg k1
          case measure=>omega
          case rel=>exact ⟨i+1,by go_num,⟨H2.out⟩,⟨by omega⟩,⟨HB.out⟩⟩
    ·obtain rfl:=Option.some.inj ((if_neg hi).symm.trans h)
     have e1:decide ((i:Int)<(lp.length:Int))=false:=decide_eq_false (by omega)
     have e4:decide (i<lp.length)=false:=decide_eq_false hi;clear h hi
     go_wp2
     go_ret
     exact⟨rfl,HB.out⟩
theorem strKey_:Go.Maps.Keyed Tryz.prog 9:=Go.Maps.string_keyed Tryz.underlying9
def MapAt (w:World) (b n:Nat) (g:ByteArray→Option Int):Prop:=
 ∃ D:DataW Unit,w.ownsMap Tryz.prog 9 (plainElem Tryz.prog 3) b n D∧∀ s:ByteArray,Go.Maps.has D (.string s.data.toList)=(g s).isSome∧D.atKey (.string s.data.toList) (.lit (.int .i64 0))=.lit (.int .i64 ((g s).getD 0))
theorem MapAt.made (w:World):MapAt (w.alloc (.map #[] 0)) w.heap.size 0 (fun _=>none):=
 ⟨_,World.ownsMap_made w _ _ _,fun s=>⟨rfl,rfl⟩⟩
theorem MapAt.same {w w':World} {b n:Nat} {g:ByteArray→Option Int} (h:MapAt w b n g) (hh:w'.heap[b]?=w.heap[b]?):MapAt w' b n g:=by
 obtain⟨D,⟨es,clock,hb,r⟩,hg⟩:=h;exact⟨D,⟨es,clock,hh.trans hb,r⟩,hg⟩
theorem MapAt.lt {w:World} {b n:Nat} {g:ByteArray→Option Int} (h:MapAt w b n g):b<w.heap.size:=by
 obtain⟨D,ho,_⟩:=h;exact ho.lt
theorem MapAt.below {w w':World} {b n:Nat} {g:ByteArray→Option Int} (h:MapAt w b n g) (hb:Below w.heap.size w w'):MapAt w' b n g:=h.same (hb.block b h.lt)
theorem MapAt.mono {w:World} {b n m:Nat} {g:ByteArray→Option Int} (h:MapAt w b n g) (hn:n≤m):MapAt w b m g:=by
 obtain⟨D,ho,hg⟩:=h;exact⟨D,ho.mono hn,hg⟩
theorem data_inj_ {s q:ByteArray} (h:s.data.toList=q.data.toList):s=q:=by
 cases s;cases q;simp only [ByteArray.mk.injEq];exact Array.toList_inj.1 h
theorem zero_int_ (w:World):(zeroValue 3).run Tryz.prog w=.ok (.int .i64 0) w:=by kernel_rfl
section
variable {ops:Array Oper} {rest:List Oper} {o:Oper} {a:Act} {Q:Exit→Act→World→Prop}
theorem map_look_ (w:World) (hg:o.guard=none) (m x:Operand) (hop:o.op=Op.lookup 51 m x true) (b n:Nat) (g:ByteArray→Option Int) (hm:a.eval m=.map (some b)) (h:MapAt w b n g)
 (s:ByteArray) (hx:a.eval x=.string s) (hs:s.size≤maxLen) (hK:wpList Tryz.prog ops Q rest (a.put o.dst (.tuple #[.int .i64 ((g s).getD 0),.bool (g s).isSome])) w):wpList Tryz.prog ops Q (o :: rest) a w:=by
 obtain⟨D,ho,hgs⟩:=h;refine wpList_lookup_own_ok_int w hg m x 51 hop 9 3 .i64 strKey_ Tryz.underlying51 Tryz.underlying3 (zero_int_ w) b n D hm ho (.string s) (.string s.data.toList) hx (Go.WideMaps.keyOf_string_mk Tryz.underlying9 hs) ?_;intro c hat _;obtain⟨h1,h2⟩:=hgs s;have hc:c=(g s).getD 0:=by
  have e:=hat.symm.trans h2
  injection e with e
  injection e
 rw [hc,h1];exact hK
theorem map_store_ (w:World) (hg:o.guard=none) (m x v:Operand) (hop:o.op=Op.mapUpdate 51 m x v) (b n:Nat) (g:ByteArray→Option Int) (hm:a.eval m=.map (some b)) (h:MapAt w b n g) (hn:n<maxLen)
 (s:ByteArray) (hx:a.eval x=.string s) (hs:s.size≤maxLen) (i:Int) (hv:a.eval v=.int .i64 i) (hi:(Lit.int .i64 i).wf=true)
 (hK:∀ w',MapAt w' b (n+1) (fun q=>if q=s then some i else g q)→w.grownBy w' (some b)→wpList Tryz.prog ops Q rest (a.put o.dst undef) w'):wpList Tryz.prog ops Q (o :: rest) a w:=by
 obtain⟨D,ho,hgs⟩:=h;refine wpList_mapUpdate_own w hg m x v 51 hop 9 3 strKey_ Tryz.underlying51 (plainElem Tryz.prog 3) b n D hm ho hn (.string s) (.int .i64 i) (.string s.data.toList) hx hv (Go.WideMaps.keyOf_string_mk Tryz.underlying9 hs) (.lit (.int .i64 i)) [] (plainElem_int Tryz.underlying3 hi) ?_;intro w' ho' hgr;refine hK w' ⟨_,ho',fun q=>?_⟩ hgr;by_cases hq:q=s
 ·subst hq
  simp only [if_true];exact⟨Go.Maps.has_put_same (ho.isMap) (show Go.WideAt.IsKeyLit (.string q.data.toList) from trivial) _,Go.Maps.atKey_put_same (ho.isMap) (show Go.WideAt.IsKeyLit (.string q.data.toList) from trivial) _ _⟩
 ·simp only [if_neg hq]
  have hne:(Lit.string q.data.toList)≠.string s.data.toList:=fun e=>hq (data_inj_ (by injection e))
  exact⟨(Go.Maps.has_put_other hne _).trans (hgs q).1,(Go.Maps.atKey_put_other hne _ _).trans (hgs q).2⟩
end
abbrev TagT:=ByteArray×ByteArray×ByteArray×List ByteArray×List S39
def tag_parent.f (k:Nat) (g:ByteArray→Option Int) (l s r:ByteArray) (V:List ByteArray) (K:List S39) (lp:List S45):Option TagT:=
 if 0<K.length then some (l,s,r,V,[]) else(tag_text.f k l s r V K).bind fun t=>if t.size≤9223372036854775807 then(match g t with
  |some i=>if 0≤i∧i<(lp.length:Int) then(tag_bare.f k (rd_T45 lp i).f1).bind fun q=>some (q.1,q.2.1,q.2.2.1,q.2.2.2.1,q.2.2.2.2.1) else none
  |none=>if 0<V.length then some (l,s,r,V.take (V.length - 1),K) else if r.toList=([]:List UInt8) then(if s.toList=([]:List UInt8) then some (⟨#[]⟩,s,r,V,K) else some (l,⟨#[]⟩,r,V,K)) else some (l,s,⟨#[]⟩,V,K)) else none
def TagV_ (w:World) (P:Addr→Prop) (v:Value) (t:TagT):Prop:=∃ A3 c3 A4 c4,v=.agg #[.string t.1,.string t.2.1,.string t.2.2.1,.slice A3 t.2.2.2.1.length c3,.slice A4 t.2.2.2.2.length c4]∧
 Kd.C Kd.string w A3 t.2.2.2.1.length t.2.2.2.1∧t.2.2.2.1.length≤c3∧Kd.C k39 w A4 t.2.2.2.2.length t.2.2.2.2∧t.2.2.2.2.length≤c4∧(∀ ad,A3=some ad→0<t.2.2.2.1.length→P ad)∧(∀ ad,A4=some ad→0<t.2.2.2.2.length→P ad)
theorem C_nil_ {α:Type} (d:Kd α) (w:World):d.C w none 0 []:=⟨rfl,by omega,fun h=>absurd h (by omega)⟩
theorem R_base_ {α:Type} {d:Kd α} {e:Nat} {w:World} {base:Nat} {ok:Nat→Prop} {v:Value} {xs:List α} (h:d.R e w base ok v xs) {ad:Addr} {n c:Nat} (hv:v=.slice (some ad) n c):base≤ad.block:=by
 obtain⟨inner,ho⟩:=Kd.R_own h;exact own_base ho ad.block (by rw [hv];rfl)
theorem C_take_ {α:Type} {d:Kd α} {w:World} {A:Option Addr} {n:Nat} {xs:List α} (h:d.C w A n xs) {m:Nat} (hm:m≤n):d.C w A m (xs.take m):=by
 have h1:=h.1;have h2:=h.2.1;refine⟨by rw [List.length_take];omega,by omega,fun h0=>?_⟩
 obtain⟨ad,e,hc⟩:=h.2.2 (by omega)
 refine⟨ad,e,fun j p hp=>hc j p ?_⟩;rw [List.getElem?_take] at hp;split at hp
 ·exact hp
 ·cases hp
set_option maxHeartbeats 8000000 in
set_option maxRecDepth 100000 in
theorem tag_parent.calls (k:Nat) (g:ByteArray→Option Int) (bm nm:Nat) (l s r:ByteArray) (A3:Option Addr) (c3:Nat) (V:List ByteArray) (A4:Option Addr) (c4:Nat) (K:List S39) (Ap:Option Addr) (cp:Nat) (lp:List S45) (t:TagT) (w:World)
 (hV:Kd.C Kd.string w A3 V.length V) (cV:V.length≤c3) (hK:Kd.C k39 w A4 K.length K) (cK:K.length≤c4) (hm:MapAt w bm nm g) (hp:Kd.C k45 w Ap lp.length lp) (cp':lp.length≤cp) (h:tag_parent.f k g l s r V K lp=some t):
 Calls Tryz.prog 63 #[.agg #[.string l,.string s,.string r,.slice A3 V.length c3,.slice A4 K.length c4],.map (some bm),.slice Ap lp.length cp] w fun e w'=>∃ v,e=.returned v∧TagV_ w' (fun ad=>((A3=some ad∧0<V.length)∨(A4=some ad∧0<K.length))∨w.heap.size≤ad.block) v t∧Below w.heap.size w w':=by
 have hu25:=Tryz.underlying25;have HV:=ak_ hV;have HK:=ak_ hK;have HM:=ak_ hm;have HP:=ak_ hp;clear hV hK hm hp;have HB:=ak_ (Below.refl w.heap.size w);unfold tag_parent.f at h;by_cases h1:0<K.length
 ·obtain h:=Option.some.inj ((if_pos h1).symm.trans h)
  subst h;have d1:decide (0<(K.length:Int))=true:=decide_eq_true (by omega)
  have d2:decide (0<K.length)=true:=decide_eq_true h1;clear h1
  go_enter Tryz.func63,Tryz.ntmps63
  go_wp2_with (first
   |((with_reducible refine gate_dst (N:=3) rfl ?_);refine box_event ?hg (N:=3) ?hd (cs:=#[.string l,.string s,.string r,.slice A3 V.length c3,.slice A4 K.length c4]) (t:=25) ?hr ?_;(case hd=>rfl);(case hg=>rfl);(case hr=>first|(go_simp;done)|(go_simp;rfl));intro gt hg w1 hbox hb;have BT:=ak_ hbox;have GT:=ak_ ((by rw [hg];exact Nat.le_refl _:w.heap.size≤gt));replace HB:=ak_ (below_step HB.out hb);clear hb hbox hg)
   |((with_reducible refine gate_dst (N:=6) rfl ?_);refine box_event ?hg (N:=6) ?hd (cs:=#[.string ⟨#[]⟩,.string ⟨#[]⟩,.string ⟨#[]⟩,.slice none 0 0,.slice none 0 0]) (t:=25) ?hr ?_;(case hd=>rfl);(case hg=>rfl);(case hr=>first|(go_simp;done)|(go_simp;rfl));intro gr hg w2 hbox hb;have BR:=ak_ hbox;have NE:=ak_ ((by rw [hg];exact Nat.ne_of_lt (blk_lt BT.out):gt≠gr));have GR:=ak_ ((by rw [hg];exact below_size HB.out:w.heap.size≤gr));replace BT:=ak_ (blk_below BT.out hb);replace HB:=ak_ (below_step HB.out hb);clear hb hbox hg;obtain⟨hc0,hc1,hc2,hc3,hc4,hf0,hf1,hf2,hf3,hf4⟩:=c5_ BT;obtain⟨rc0,rc1,rc2,rc3,rc4,rf0,rf1,rf2,rf3,rf4⟩:=c5_ BR;have hne:=NE.out;have hne2:=NE.out.symm))
  refine bodyPost_ret (results_cell_row rfl _ _ gr 25 #[.string l,.string s,.string r,.slice A3 V.length c3,.slice none 0 0] (0,0) _ rfl (TgB.put (blk_far BR.out NE.out.symm _)) Tryz.underlying25 rfl (by kernel_rfl)) rfl ?_
  have hb':=below_set (below_set (below_set (below_set (below_set (below_set HB.out GT.out (j:=4) (v:=.slice none 0 0)) GR.out (j:=0) (v:=.string l)) GR.out (j:=1) (v:=.string s)) GR.out (j:=2) (v:=.string r)) GR.out (j:=3) (v:=.slice A3 V.length c3)) GR.out (j:=4) (v:=.slice none 0 0);exact⟨_,rfl,⟨_,_,_,_,rfl,Kd.C_below HV.out hb',cV,C_nil_ _ _,Nat.zero_le _,(fun ad h h0=>.inl (.inl ⟨h,h0⟩)),(fun ad h=>by cases h)⟩,hb'⟩
 ·replace h:=(if_neg h1).symm.trans h
  have d1:decide (0<(K.length:Int))=false:=decide_eq_false (by omega)
  have d2:decide (0<K.length)=false:=decide_eq_false h1;clear h1;obtain⟨tx,ht,h⟩:=Option.bind_eq_some_iff.1 h;have HT:=ak_ ht;clear ht;by_cases hz:tx.size≤9223372036854775807
  ·replace h:=(if_pos hz).symm.trans h
   have hz':tx.size≤maxLen:=hz;have HZ:=ak_ hz';clear hz hz';cases hg:g tx with
   | some i=>
    rw [hg] at h;have HG:=ak_ hg;by_cases hi:0≤i∧i<(lp.length:Int)
    ·replace h:=(if_pos hi).symm.trans h
     obtain⟨q,hq,h⟩:=Option.bind_eq_some_iff.1 h;have HQ:=ak_ hq;obtain h:=Option.some.inj h;subst h;clear hq hg;obtain⟨hi0,hi1⟩:=hi;obtain⟨ad,e45,_,hx⟩:=at_T45 HP.out i hi0 hi1;subst e45;have t0:(0≤i)=True:=eq_true hi0;have t1:(i<(lp.length:Int))=True:=eq_true hi1
     go_enter Tryz.func63,Tryz.ntmps63
     go_wp2_with (first
      |((with_reducible refine gate_dst (N:=3) rfl ?_);refine box_event ?hg (N:=3) ?hd (cs:=#[.string l,.string s,.string r,.slice A3 V.length c3,.slice A4 K.length c4]) (t:=25) ?hr ?_;(case hd=>rfl);(case hg=>rfl);(case hr=>first|(go_simp;done)|(go_simp;rfl));intro gt hg w1 hbox hb;have BT:=ak_ hbox;have GT:=ak_ ((by rw [hg];exact Nat.le_refl _:w.heap.size≤gt));replace HB:=ak_ (below_step HB.out hb);clear hb hbox hg)
      |((with_reducible refine gate_dst (N:=6) rfl ?_);refine box_event ?hg (N:=6) ?hd (cs:=#[.string ⟨#[]⟩,.string ⟨#[]⟩,.string ⟨#[]⟩,.slice none 0 0,.slice none 0 0]) (t:=25) ?hr ?_;(case hd=>rfl);(case hg=>rfl);(case hr=>first|(go_simp;done)|(go_simp;rfl));intro gr hg w2 hbox hb;have BR:=ak_ hbox;have NE:=ak_ ((by rw [hg];exact Nat.ne_of_lt (blk_lt BT.out):gt≠gr));have GR:=ak_ ((by rw [hg];exact below_size HB.out:w.heap.size≤gr));replace BT:=ak_ (blk_below BT.out hb);replace HB:=ak_ (below_step HB.out hb);clear hb hbox hg;obtain⟨hc0,hc1,hc2,hc3,hc4,hf0,hf1,hf2,hf3,hf4⟩:=c5_ BT;obtain⟨rc0,rc1,rc2,rc3,rc4,rf0,rf1,rf2,rf3,rf4⟩:=c5_ BR;have hne:=NE.out;have hne2:=NE.out.symm)
      |(go_at_call 40;refine(tag_text.calls k _ _ _ _ _ V _ _ K tx _ (Kd.C_below HV.out HB.out) cV (Kd.C_below HK.out HB.out) cK HT.out).mono ?_;rintro e w3 ⟨rfl,hb⟩;replace BT:=ak_ (blk_below BT.out hb);replace BR:=ak_ (blk_below BR.out hb);replace HB:=ak_ (below_step HB.out hb);clear hb hc0 hc1 hc2 hc3 hc4 hf0 hf1 hf2 hf3 hf4 rc0 rc1 rc2 rc3 rc4 rf0 rf1 rf2 rf3 rf4;obtain⟨hc0,hc1,hc2,hc3,hc4,hf0,hf1,hf2,hf3,hf4⟩:=c5_ BT;obtain⟨rc0,rc1,rc2,rc3,rc4,rf0,rf1,rf2,rf3,rf4⟩:=c5_ BR;have hxw:=(HB.out.cell (World.block_lt_of_cell? w _ hx)).trans hx)
      |(at_lookup;refine map_look_ _ rfl _ _ rfl bm nm g rfl (HM.out.below HB.out) tx rfl HZ.out ?_;rw [HG.out])
      |(go_at_call 61;refine(tag_bare.calls k (rd_T45 lp i).f1 q.1 q.2.1 q.2.2.1 q.2.2.2.1 q.2.2.2.2.1 q.2.2.2.2.2 _ HQ.out).mono ?_;rintro e w4 ⟨v3,v4,rfl,hR3,hR4,hb⟩;have HS3:=ak_ (below_size HB.out);obtain⟨B3,d3,rfl,l3,hC3⟩:=Kd.R_reads hR3;obtain⟨B4,d4,rfl,l4,hC4⟩:=Kd.R_reads hR4;have HR3:=ak_ hR3;have HR4:=ak_ hR4;replace BT:=ak_ (blk_below BT.out hb);replace BR:=ak_ (blk_below BR.out hb);replace HB:=ak_ (below_step HB.out hb);clear hb hR3 hR4 hC3 hC4 hxw hc0 hc1 hc2 hc3 hc4 hf0 hf1 hf2 hf3 hf4 rc0 rc1 rc2 rc3 rc4 rf0 rf1 rf2 rf3 rf4)
      |((with_reducible refine gate_dst (N:=9) rfl ?_);refine box_event ?hg (N:=9) ?hd (cs:=#[.string ⟨#[]⟩,.string ⟨#[]⟩,.string ⟨#[]⟩,.slice none 0 0,.slice none 0 0]) (t:=25) ?hr ?_;(case hd=>rfl);(case hg=>rfl);(case hr=>first|(go_simp;done)|(go_simp;rfl));intro gp hg w5 hbox hb;have BP:=ak_ hbox;have NP:=ak_ ((by rw [hg];exact Nat.ne_of_lt (blk_lt BR.out):gr≠gp));have GP:=ak_ ((by rw [hg];exact below_size HB.out:w.heap.size≤gp));replace BR:=ak_ (blk_below BR.out hb);replace HR3:=ak_ (Kd.R_below HR3.out hb);replace HR4:=ak_ (Kd.R_below HR4.out hb);replace HB:=ak_ (below_step HB.out hb);clear hb hbox hg;obtain⟨rc0,rc1,rc2,rc3,rc4,rf0,rf1,rf2,rf3,rf4⟩:=c5_ BR;obtain⟨pc0,pc1,pc2,pc3,pc4,pf0,pf1,pf2,pf3,pf4⟩:=c5_ BP;have hnp:=NP.out;have hnp2:=NP.out.symm))
     have BR2:TgB (((((w5.setCell ⟨gp,0,none⟩ (.string q.1)).setCell ⟨gp,1,none⟩ (.string q.2.1)).setCell ⟨gp,2,none⟩ (.string q.2.2.1)).setCell ⟨gp,3,none⟩ (.slice B3 q.2.2.2.1.length d3)).setCell ⟨gp,4,none⟩ (.slice B4 q.2.2.2.2.1.length d4)) gr ⟨#[]⟩ ⟨#[]⟩ ⟨#[]⟩ (.slice none 0 0) (.slice none 0 0):=
      blk_far (blk_far (blk_far (blk_far (blk_far BR.out NP.out _) NP.out _) NP.out _) NP.out _) NP.out _
     have R3:=TgB.keepR (l':=q.1) (s':=q.2.1) (r':=q.2.2.1) (V3':=.slice B3 q.2.2.2.1.length d3) (V4':=.slice B4 q.2.2.2.2.1.length d4) BR2 (TgB.keepR (l':=q.1) (s':=q.2.1) (r':=q.2.2.1) (V3':=.slice B3 q.2.2.2.1.length d3) (V4':=.slice B4 q.2.2.2.2.1.length d4) (show TgB w5 gp ⟨#[]⟩ ⟨#[]⟩ ⟨#[]⟩ (.slice none 0 0) (.slice none 0 0) from BP.out) HR3.out (by decide)) (by decide)
     have R4:=TgB.keepR (l':=q.1) (s':=q.2.1) (r':=q.2.2.1) (V3':=.slice B3 q.2.2.2.1.length d3) (V4':=.slice B4 q.2.2.2.2.1.length d4) BR2 (TgB.keepR (l':=q.1) (s':=q.2.1) (r':=q.2.2.1) (V3':=.slice B3 q.2.2.2.1.length d3) (V4':=.slice B4 q.2.2.2.2.1.length d4) (show TgB w5 gp ⟨#[]⟩ ⟨#[]⟩ ⟨#[]⟩ (.slice none 0 0) (.slice none 0 0) from BP.out) HR4.out (by decide)) (by decide)
     obtain⟨X3,y3,E3,m3,C3⟩:=Kd.R_reads R3;obtain⟨X4,y4,E4,m4,C4⟩:=Kd.R_reads R4;have hb':=below_set (below_set (below_set (below_set (below_set (below_set (below_set (below_set (below_set (below_set HB.out GP.out (j:=0) (v:=.string q.1)) GP.out (j:=1) (v:=.string q.2.1)) GP.out (j:=2) (v:=.string q.2.2.1)) GP.out (j:=3) (v:=.slice B3 q.2.2.2.1.length d3)) GP.out (j:=4) (v:=.slice B4 q.2.2.2.2.1.length d4)) GR.out (j:=0) (v:=.string q.1)) GR.out (j:=1) (v:=.string q.2.1)) GR.out (j:=2) (v:=.string q.2.2.1)) GR.out (j:=3) (v:=.slice B3 q.2.2.2.1.length d3)) GR.out (j:=4) (v:=.slice B4 q.2.2.2.2.1.length d4);refine bodyPost_ret (results_cell_row rfl _ _ gr 25 #[.string q.1,.string q.2.1,.string q.2.2.1,.slice B3 q.2.2.2.1.length d3,.slice B4 q.2.2.2.2.1.length d4] (0,0) _ rfl (TgB.put BR2) Tryz.underlying25 rfl (by kernel_rfl)) rfl ?_
     exact⟨_,rfl,⟨X3,y3,X4,y4,by rw [E3,E4],C3,m3,C4,m4,(fun ad h _=>.inr (Nat.le_trans HS3.out (R_base_ R3 (by rw [E3,h])))),(fun ad h _=>.inr (Nat.le_trans HS3.out (R_base_ R4 (by rw [E4,h]))))⟩,hb'⟩
    ·replace h:=(if_neg hi).symm.trans h
     cases h
   | none=>
    rw [hg] at h;have HG:=ak_ hg;have H:=ak_ h;clear h hg;by_cases hv:0<V.length
    ·have e1:decide (0<(V.length:Int))=true:=decide_eq_true (by omega)
     have e2:decide (0<V.length)=true:=decide_eq_true hv;obtain h:=Option.some.inj ((if_pos hv).symm.trans H.out);subst h;clear H;have hw:IntKind.i64.wrap ((V.length:Int) - 1)=((V.length - 1:Nat):Int):=by have:=HV.out.2.1;simp [IntKind.wrap,IntKind.bits,IntKind.signed];omega
     have hle:V.length - 1≤c3:=by omega
     go_enter Tryz.func63,Tryz.ntmps63
     go_wp2_with (first
      |((with_reducible refine gate_dst (N:=3) rfl ?_);refine box_event ?hg (N:=3) ?hd (cs:=#[.string l,.string s,.string r,.slice A3 V.length c3,.slice A4 K.length c4]) (t:=25) ?hr ?_;(case hd=>rfl);(case hg=>rfl);(case hr=>first|(go_simp;done)|(go_simp;rfl));intro gt hg w1 hbox hb;have BT:=ak_ hbox;have GT:=ak_ ((by rw [hg];exact Nat.le_refl _:w.heap.size≤gt));replace HB:=ak_ (below_step HB.out hb);clear hb hbox hg)
      |((with_reducible refine gate_dst (N:=6) rfl ?_);refine box_event ?hg (N:=6) ?hd (cs:=#[.string ⟨#[]⟩,.string ⟨#[]⟩,.string ⟨#[]⟩,.slice none 0 0,.slice none 0 0]) (t:=25) ?hr ?_;(case hd=>rfl);(case hg=>rfl);(case hr=>first|(go_simp;done)|(go_simp;rfl));intro gr hg w2 hbox hb;have BR:=ak_ hbox;have NE:=ak_ ((by rw [hg];exact Nat.ne_of_lt (blk_lt BT.out):gt≠gr));have GR:=ak_ ((by rw [hg];exact below_size HB.out:w.heap.size≤gr));replace BT:=ak_ (blk_below BT.out hb);replace HB:=ak_ (below_step HB.out hb);clear hb hbox hg;obtain⟨hc0,hc1,hc2,hc3,hc4,hf0,hf1,hf2,hf3,hf4⟩:=c5_ BT;obtain⟨rc0,rc1,rc2,rc3,rc4,rf0,rf1,rf2,rf3,rf4⟩:=c5_ BR;have hne:=NE.out;have hne2:=NE.out.symm)
      |(go_at_call 40;refine(tag_text.calls k _ _ _ _ _ V _ _ K tx _ (Kd.C_below HV.out HB.out) cV (Kd.C_below HK.out HB.out) cK HT.out).mono ?_;rintro e w3 ⟨rfl,hb⟩;replace BT:=ak_ (blk_below BT.out hb);replace BR:=ak_ (blk_below BR.out hb);replace HB:=ak_ (below_step HB.out hb);clear hb hc0 hc1 hc2 hc3 hc4 hf0 hf1 hf2 hf3 hf4 rc0 rc1 rc2 rc3 rc4 rf0 rf1 rf2 rf3 rf4;obtain⟨hc0,hc1,hc2,hc3,hc4,hf0,hf1,hf2,hf3,hf4⟩:=c5_ BT;obtain⟨rc0,rc1,rc2,rc3,rc4,rf0,rf1,rf2,rf3,rf4⟩:=c5_ BR)
      |(at_lookup;refine map_look_ _ rfl _ _ rfl bm nm g rfl (HM.out.below HB.out) tx rfl HZ.out ?_;rw [HG.out]))
     refine bodyPost_ret (results_cell_row rfl _ _ gr 25 #[.string l,.string s,.string r,.slice A3 (V.length - 1) c3,.slice A4 K.length c4] (0,0) _ rfl (TgB.put (blk_far BR.out NE.out.symm _)) Tryz.underlying25 rfl (by kernel_rfl)) rfl ?_
     have hb':=below_set (below_set (below_set (below_set (below_set (below_set HB.out GT.out (j:=3) (v:=.slice A3 (V.length - 1) c3)) GR.out (j:=0) (v:=.string l)) GR.out (j:=1) (v:=.string s)) GR.out (j:=2) (v:=.string r)) GR.out (j:=3) (v:=.slice A3 (V.length - 1) c3)) GR.out (j:=4) (v:=.slice A4 K.length c4);have hl:(V.take (V.length - 1)).length=V.length - 1:=by rw [List.length_take];omega
     exact⟨_,rfl,⟨A3,c3,A4,c4,by show _=Value.agg #[.string l,.string s,.string r,.slice A3 (V.take (V.length - 1)).length c3,.slice A4 K.length c4];rw [hl],by show Kd.C Kd.string _ A3 (V.take (V.length - 1)).length (V.take (V.length - 1));rw [hl];exact C_take_ (Kd.C_below HV.out hb') (by omega),by show(V.take (V.length - 1)).length≤c3;rw [hl];exact hle,Kd.C_below HK.out hb',cK,(fun ad h h0=>.inl (.inl ⟨h,hv⟩)),(fun ad h h0=>.inl (.inr ⟨h,h0⟩))⟩,hb'⟩
    ·have e1:decide (0<(V.length:Int))=false:=decide_eq_false (by omega)
     have e2:decide (0<V.length)=false:=decide_eq_false hv;replace H:=ak_ ((if_neg hv).symm.trans H.out);by_cases hr:r.toList=([]:List UInt8)
     ·have e3:(r.toList != ([]:List UInt8))=false:=by rw [hr];rfl
      have e4:(r.toList==([]:List UInt8))=true:=by rw [hr];rfl
      replace H:=ak_ ((if_pos hr).symm.trans H.out);by_cases hs:s.toList=([]:List UInt8)
      ·have e5:(s.toList != ([]:List UInt8))=false:=by rw [hs];rfl
       have e6:(s.toList==([]:List UInt8))=true:=by rw [hs];rfl
       obtain h:=Option.some.inj ((if_pos hs).symm.trans H.out);subst h;clear H hv hr hs
       go_enter Tryz.func63,Tryz.ntmps63
       go_wp2_with (first
        |((with_reducible refine gate_dst (N:=3) rfl ?_);refine box_event ?hg (N:=3) ?hd (cs:=#[.string l,.string s,.string r,.slice A3 V.length c3,.slice A4 K.length c4]) (t:=25) ?hr ?_;(case hd=>rfl);(case hg=>rfl);(case hr=>first|(go_simp;done)|(go_simp;rfl));intro gt hg w1 hbox hb;have BT:=ak_ hbox;have GT:=ak_ ((by rw [hg];exact Nat.le_refl _:w.heap.size≤gt));replace HB:=ak_ (below_step HB.out hb);clear hb hbox hg)
        |((with_reducible refine gate_dst (N:=6) rfl ?_);refine box_event ?hg (N:=6) ?hd (cs:=#[.string ⟨#[]⟩,.string ⟨#[]⟩,.string ⟨#[]⟩,.slice none 0 0,.slice none 0 0]) (t:=25) ?hr ?_;(case hd=>rfl);(case hg=>rfl);(case hr=>first|(go_simp;done)|(go_simp;rfl));intro gr hg w2 hbox hb;have BR:=ak_ hbox;have NE:=ak_ ((by rw [hg];exact Nat.ne_of_lt (blk_lt BT.out):gt≠gr));have GR:=ak_ ((by rw [hg];exact below_size HB.out:w.heap.size≤gr));replace BT:=ak_ (blk_below BT.out hb);replace HB:=ak_ (below_step HB.out hb);clear hb hbox hg;obtain⟨hc0,hc1,hc2,hc3,hc4,hf0,hf1,hf2,hf3,hf4⟩:=c5_ BT;obtain⟨rc0,rc1,rc2,rc3,rc4,rf0,rf1,rf2,rf3,rf4⟩:=c5_ BR;have hne:=NE.out;have hne2:=NE.out.symm)
        |(go_at_call 40;refine(tag_text.calls k _ _ _ _ _ V _ _ K tx _ (Kd.C_below HV.out HB.out) cV (Kd.C_below HK.out HB.out) cK HT.out).mono ?_;rintro e w3 ⟨rfl,hb⟩;replace BT:=ak_ (blk_below BT.out hb);replace BR:=ak_ (blk_below BR.out hb);replace HB:=ak_ (below_step HB.out hb);clear hb hc0 hc1 hc2 hc3 hc4 hf0 hf1 hf2 hf3 hf4 rc0 rc1 rc2 rc3 rc4 rf0 rf1 rf2 rf3 rf4;obtain⟨hc0,hc1,hc2,hc3,hc4,hf0,hf1,hf2,hf3,hf4⟩:=c5_ BT;obtain⟨rc0,rc1,rc2,rc3,rc4,rf0,rf1,rf2,rf3,rf4⟩:=c5_ BR)
        |(at_lookup;refine map_look_ _ rfl _ _ rfl bm nm g rfl (HM.out.below HB.out) tx rfl HZ.out ?_;rw [HG.out]))
       refine bodyPost_ret (results_cell_row rfl _ _ gr 25 #[.string ⟨#[]⟩,.string s,.string r,.slice A3 V.length c3,.slice A4 K.length c4] (0,0) _ rfl (TgB.put (blk_far BR.out NE.out.symm _)) Tryz.underlying25 rfl (by kernel_rfl)) rfl ?_
       have hb':=below_set (below_set (below_set (below_set (below_set (below_set HB.out GT.out (j:=0) (v:=.string ⟨#[]⟩)) GR.out (j:=0) (v:=.string ⟨#[]⟩)) GR.out (j:=1) (v:=.string s)) GR.out (j:=2) (v:=.string r)) GR.out (j:=3) (v:=.slice A3 V.length c3)) GR.out (j:=4) (v:=.slice A4 K.length c4);exact⟨_,rfl,⟨_,_,_,_,rfl,Kd.C_below HV.out hb',cV,Kd.C_below HK.out hb',cK,(fun ad h h0=>.inl (.inl ⟨h,h0⟩)),(fun ad h h0=>.inl (.inr ⟨h,h0⟩))⟩,hb'⟩
      ·have e5:(s.toList != ([]:List UInt8))=true:=bne_iff_ne.mpr hs
       have e6:(s.toList==([]:List UInt8))=false:=beq_eq_false_iff_ne.mpr hs;obtain h:=Option.some.inj ((if_neg hs).symm.trans H.out);subst h;clear H hv hr hs
       go_enter Tryz.func63,Tryz.ntmps63
       go_wp2_with (first
        |((with_reducible refine gate_dst (N:=3) rfl ?_);refine box_event ?hg (N:=3) ?hd (cs:=#[.string l,.string s,.string r,.slice A3 V.length c3,.slice A4 K.length c4]) (t:=25) ?hr ?_;(case hd=>rfl);(case hg=>rfl);(case hr=>first|(go_simp;done)|(go_simp;rfl));intro gt hg w1 hbox hb;have BT:=ak_ hbox;have GT:=ak_ ((by rw [hg];exact Nat.le_refl _:w.heap.size≤gt));replace HB:=ak_ (below_step HB.out hb);clear hb hbox hg)
        |((with_reducible refine gate_dst (N:=6) rfl ?_);refine box_event ?hg (N:=6) ?hd (cs:=#[.string ⟨#[]⟩,.string ⟨#[]⟩,.string ⟨#[]⟩,.slice none 0 0,.slice none 0 0]) (t:=25) ?hr ?_;(case hd=>rfl);(case hg=>rfl);(case hr=>first|(go_simp;done)|(go_simp;rfl));intro gr hg w2 hbox hb;have BR:=ak_ hbox;have NE:=ak_ ((by rw [hg];exact Nat.ne_of_lt (blk_lt BT.out):gt≠gr));have GR:=ak_ ((by rw [hg];exact below_size HB.out:w.heap.size≤gr));replace BT:=ak_ (blk_below BT.out hb);replace HB:=ak_ (below_step HB.out hb);clear hb hbox hg;obtain⟨hc0,hc1,hc2,hc3,hc4,hf0,hf1,hf2,hf3,hf4⟩:=c5_ BT;obtain⟨rc0,rc1,rc2,rc3,rc4,rf0,rf1,rf2,rf3,rf4⟩:=c5_ BR;have hne:=NE.out;have hne2:=NE.out.symm)
        |(go_at_call 40;refine(tag_text.calls k _ _ _ _ _ V _ _ K tx _ (Kd.C_below HV.out HB.out) cV (Kd.C_below HK.out HB.out) cK HT.out).mono ?_;rintro e w3 ⟨rfl,hb⟩;replace BT:=ak_ (blk_below BT.out hb);replace BR:=ak_ (blk_below BR.out hb);replace HB:=ak_ (below_step HB.out hb);clear hb hc0 hc1 hc2 hc3 hc4 hf0 hf1 hf2 hf3 hf4 rc0 rc1 rc2 rc3 rc4 rf0 rf1 rf2 rf3 rf4;obtain⟨hc0,hc1,hc2,hc3,hc4,hf0,hf1,hf2,hf3,hf4⟩:=c5_ BT;obtain⟨rc0,rc1,rc2,rc3,rc4,rf0,rf1,rf2,rf3,rf4⟩:=c5_ BR)
        |(at_lookup;refine map_look_ _ rfl _ _ rfl bm nm g rfl (HM.out.below HB.out) tx rfl HZ.out ?_;rw [HG.out]))
       refine bodyPost_ret (results_cell_row rfl _ _ gr 25 #[.string l,.string ⟨#[]⟩,.string r,.slice A3 V.length c3,.slice A4 K.length c4] (0,0) _ rfl (TgB.put (blk_far BR.out NE.out.symm _)) Tryz.underlying25 rfl (by kernel_rfl)) rfl ?_
       have hb':=below_set (below_set (below_set (below_set (below_set (below_set HB.out GT.out (j:=1) (v:=.string ⟨#[]⟩)) GR.out (j:=0) (v:=.string l)) GR.out (j:=1) (v:=.string ⟨#[]⟩)) GR.out (j:=2) (v:=.string r)) GR.out (j:=3) (v:=.slice A3 V.length c3)) GR.out (j:=4) (v:=.slice A4 K.length c4);exact⟨_,rfl,⟨_,_,_,_,rfl,Kd.C_below HV.out hb',cV,Kd.C_below HK.out hb',cK,(fun ad h h0=>.inl (.inl ⟨h,h0⟩)),(fun ad h h0=>.inl (.inr ⟨h,h0⟩))⟩,hb'⟩
     ·have e3:(r.toList != ([]:List UInt8))=true:=bne_iff_ne.mpr hr
      have e4:(r.toList==([]:List UInt8))=false:=beq_eq_false_iff_ne.mpr hr;obtain h:=Option.some.inj ((if_neg hr).symm.trans H.out);subst h;clear H hv hr
      go_enter Tryz.func63,Tryz.ntmps63
      go_wp2_with (first
       |((with_reducible refine gate_dst (N:=3) rfl ?_);refine box_event ?hg (N:=3) ?hd (cs:=#[.string l,.string s,.string r,.slice A3 V.length c3,.slice A4 K.length c4]) (t:=25) ?hr ?_;(case hd=>rfl);(case hg=>rfl);(case hr=>first|(go_simp;done)|(go_simp;rfl));intro gt hg w1 hbox hb;have BT:=ak_ hbox;have GT:=ak_ ((by rw [hg];exact Nat.le_refl _:w.heap.size≤gt));replace HB:=ak_ (below_step HB.out hb);clear hb hbox hg)
       |((with_reducible refine gate_dst (N:=6) rfl ?_);refine box_event ?hg (N:=6) ?hd (cs:=#[.string ⟨#[]⟩,.string ⟨#[]⟩,.string ⟨#[]⟩,.slice none 0 0,.slice none 0 0]) (t:=25) ?hr ?_;(case hd=>rfl);(case hg=>rfl);(case hr=>first|(go_simp;done)|(go_simp;rfl));intro gr hg w2 hbox hb;have BR:=ak_ hbox;have NE:=ak_ ((by rw [hg];exact Nat.ne_of_lt (blk_lt BT.out):gt≠gr));have GR:=ak_ ((by rw [hg];exact below_size HB.out:w.heap.size≤gr));replace BT:=ak_ (blk_below BT.out hb);replace HB:=ak_ (below_step HB.out hb);clear hb hbox hg;obtain⟨hc0,hc1,hc2,hc3,hc4,hf0,hf1,hf2,hf3,hf4⟩:=c5_ BT;obtain⟨rc0,rc1,rc2,rc3,rc4,rf0,rf1,rf2,rf3,rf4⟩:=c5_ BR;have hne:=NE.out;have hne2:=NE.out.symm)
       |(go_at_call 40;refine(tag_text.calls k _ _ _ _ _ V _ _ K tx _ (Kd.C_below HV.out HB.out) cV (Kd.C_below HK.out HB.out) cK HT.out).mono ?_;rintro e w3 ⟨rfl,hb⟩;replace BT:=ak_ (blk_below BT.out hb);replace BR:=ak_ (blk_below BR.out hb);replace HB:=ak_ (below_step HB.out hb);clear hb hc0 hc1 hc2 hc3 hc4 hf0 hf1 hf2 hf3 hf4 rc0 rc1 rc2 rc3 rc4 rf0 rf1 rf2 rf3 rf4;obtain⟨hc0,hc1,hc2,hc3,hc4,hf0,hf1,hf2,hf3,hf4⟩:=c5_ BT;obtain⟨rc0,rc1,rc2,rc3,rc4,rf0,rf1,rf2,rf3,rf4⟩:=c5_ BR)
       |(at_lookup;refine map_look_ _ rfl _ _ rfl bm nm g rfl (HM.out.below HB.out) tx rfl HZ.out ?_;rw [HG.out]))
      refine bodyPost_ret (results_cell_row rfl _ _ gr 25 #[.string l,.string s,.string ⟨#[]⟩,.slice A3 V.length c3,.slice A4 K.length c4] (0,0) _ rfl (TgB.put (blk_far BR.out NE.out.symm _)) Tryz.underlying25 rfl (by kernel_rfl)) rfl ?_
      have hb':=below_set (below_set (below_set (below_set (below_set (below_set HB.out GT.out (j:=2) (v:=.string ⟨#[]⟩)) GR.out (j:=0) (v:=.string l)) GR.out (j:=1) (v:=.string s)) GR.out (j:=2) (v:=.string ⟨#[]⟩)) GR.out (j:=3) (v:=.slice A3 V.length c3)) GR.out (j:=4) (v:=.slice A4 K.length c4);exact⟨_,rfl,⟨_,_,_,_,rfl,Kd.C_below HV.out hb',cV,Kd.C_below HK.out hb',cK,(fun ad h h0=>.inl (.inl ⟨h,h0⟩)),(fun ad h h0=>.inl (.inr ⟨h,h0⟩))⟩,hb'⟩
  ·replace h:=(if_neg hz).symm.trans h
   cases h
theorem add_block_ (ad:Addr) (j:Nat):(ad.add j).block=ad.block:=by unfold Addr.add;split <;> rfl
theorem cell_block_ {w w':World} {p:Addr} (h:w'.heap[p.block]?=w.heap[p.block]?):w'.cell? p=w.cell? p:=by unfold World.cell?;rw [h]
theorem C_same_ {α:Type} {d:Kd α} (hd:∀ (w w':World) x cs,d.K w x cs→d.K w' x cs) {w w':World} {A:Option Addr} {n:Nat} {xs:List α} (h:d.C w A n xs) (hb:∀ ad,A=some ad→0<n→ad.block<w.heap.size→w'.heap[ad.block]?=w.heap[ad.block]?):d.C w' A n xs:=by
 refine⟨h.1,h.2.1,fun h0=>?_⟩;obtain⟨ad,e,hc⟩:=h.2.2 h0;refine⟨ad,e,fun j p hp=>?_⟩;obtain⟨c,hl,hk,hcell⟩:=hc j p hp;refine⟨c,hl,hd w w' p c hk,fun i u hu=>?_⟩;have hlt:=World.block_lt_of_cell? w _ (hcell i u hu);rw [add_block_] at hlt;rw [cell_block_ (w:=w) (by rw [add_block_];exact hb ad e h0 hlt)]
 exact hcell i u hu
theorem Kstr_:∀ (w w':World) x cs,Kd.string.K w x cs→Kd.string.K w' x cs:=fun _ _ _ _ h=>h
theorem Kkey_:∀ (w w':World) x cs,(k39).K w x cs→(k39).K w' x cs:=fun _ _ _ _ h=>h
def TagR_ (w:World) (P:Nat→Prop) (t:TagT) (A3:Option Addr) (c3:Nat) (A4:Option Addr) (c4:Nat):Prop:=
 Kd.C Kd.string w A3 t.2.2.2.1.length t.2.2.2.1∧t.2.2.2.1.length≤c3∧Kd.C k39 w A4 t.2.2.2.2.length t.2.2.2.2∧t.2.2.2.2.length≤c4∧(∀ ad,A3=some ad→0<t.2.2.2.1.length→P ad.block)∧(∀ ad,A4=some ad→0<t.2.2.2.2.length→P ad.block)
theorem TagR_.same {w w':World} {P:Nat→Prop} {t:TagT} {A3:Option Addr} {c3:Nat} {A4:Option Addr} {c4:Nat} (h:TagR_ w P t A3 c3 A4 c4) (hb:∀ b,P b→b<w.heap.size→w'.heap[b]?=w.heap[b]?):TagR_ w' P t A3 c3 A4 c4:=
 ⟨C_same_ Kstr_ h.1 (fun ad e h0 hl=>hb _ (h.2.2.2.2.1 ad e h0) hl),h.2.1,C_same_ Kkey_ h.2.2.1 (fun ad e h0 hl=>hb _ (h.2.2.2.2.2 ad e h0) hl),h.2.2.2.1,h.2.2.2.2⟩
theorem TagR_.below {w w':World} {P:Nat→Prop} {t:TagT} {A3:Option Addr} {c3:Nat} {A4:Option Addr} {c4:Nat} (h:TagR_ w P t A3 c3 A4 c4) (hb:Below w.heap.size w w'):TagR_ w' P t A3 c3 A4 c4:=
 ⟨Kd.C_below h.1 hb,h.2.1,Kd.C_below h.2.2.1 hb,h.2.2.2.1,h.2.2.2.2⟩
theorem C_lt_ {α:Type} {d:Kd α} {w:World} {A:Option Addr} {xs:List α} (h:d.C w A xs.length xs) (hs:0<d.sz) {ad:Addr} (e:A=some ad) (h0:0<xs.length):ad.block<w.heap.size:=by
 obtain⟨ad',e',hc⟩:=h.2.2 h0;rw [e] at e';obtain rfl:=Option.some.inj e';obtain⟨c,hl,_,hcell⟩:=hc 0 _ (List.getElem?_eq_getElem h0);have:=World.block_lt_of_cell? w _ (hcell 0 _ (List.getElem?_eq_getElem (by omega)))
 rw [add_block_] at this;exact this
theorem TagR_.mono {w:World} {P P':Nat→Prop} {t:TagT} {A3:Option Addr} {c3:Nat} {A4:Option Addr} {c4:Nat} (h:TagR_ w P t A3 c3 A4 c4) (hp:∀ b,P b→b<w.heap.size→P' b):TagR_ w P' t A3 c3 A4 c4:=
 ⟨h.1,h.2.1,h.2.2.1,h.2.2.2.1,fun ad e h0=>hp _ (h.2.2.2.2.1 ad e h0) (C_lt_ h.1 (by decide) e h0),fun ad e h0=>hp _ (h.2.2.2.2.2 ad e h0) (C_lt_ h.2.2.1 (by decide) e h0)⟩
def tag_chain.l0 (g:ByteArray→Option Int) (lp:List S45) (m:Nat):Nat→(ByteArray→Option Int)→List S25→TagT→Option (List S25×Int)
 |0,_,_,_=>none
 | k+1,hd,acc,t=>(tag_text.f m t.1 t.2.1 t.2.2.1 t.2.2.2.1 t.2.2.2.2).bind fun x=>if x.size≤9223372036854775807 then(match hd x with
  |some _=>some ([],6)
  |none=>if acc.length<1000000000000 then(tag_copied.f t.1 t.2.1 t.2.2.1 t.2.2.2.1 t.2.2.2.2).bind fun c=>if x.toList=([117,110,100]:List UInt8) then some (acc++[⟨c.1,c.2.1,c.2.2.1,c.2.2.2.1,c.2.2.2.2⟩],0)
   else(tag_parent.f m g t.1 t.2.1 t.2.2.1 t.2.2.2.1 t.2.2.2.2 lp).bind fun p=>tag_chain.l0 g lp m k (fun q=>if q=x then some (acc.length:Int) else hd q) (acc++[⟨c.1,c.2.1,c.2.2.1,c.2.2.2.1,c.2.2.2.2⟩]) p else none) else none
theorem NB_ {v v1:Value} {n b:Nat} (hat:v1.ownBlock=v.ownBlock∨∃ q,v1.ownBlock=some q∧n≤q) (h1:some b≠v.ownBlock) (h2:b<n):some b≠v1.ownBlock:=by
 rcases hat with h|⟨q,h,hq⟩
 ·rw [h];exact h1
 ·rw [h]
  intro e
  injection e with e
  omega
theorem set5_ {w:World} {g:Nat} {u0 u1 u2 u3 u4:Value} (b:Nat) (hb:b≠g):(((((w.setCell ⟨g,0,none⟩ u0).setCell ⟨g,1,none⟩ u1).setCell ⟨g,2,none⟩ u2).setCell ⟨g,3,none⟩ u3).setCell ⟨g,4,none⟩ u4).heap[b]?=w.heap[b]?:=by
 rw [Below.heap_setCell _ _ _ _ hb,Below.heap_setCell _ _ _ _ hb,Below.heap_setCell _ _ _ _ hb,Below.heap_setCell _ _ _ _ hb,Below.heap_setCell _ _ _ _ hb]
theorem PB_ {w:World} {gt gm:Nat} {o:Obj} {A3 A4:Option Addr} {n3 n4:Nat} {v:Value} {acc:List S25} {base:Nat} {ok:Nat→Prop} (hg:w.heap[gt]?=some o) (hm:gm<w.heap.size) (hR:Kd.R k25 25 w base ok v acc)
 (h3:∀ ad,A3=some ad→0<n3→(ad.block≠gt∧ad.block≠gm)∧some ad.block≠v.ownBlock) (h4:∀ ad,A4=some ad→0<n4→(ad.block≠gt∧ad.block≠gm)∧some ad.block≠v.ownBlock) {ad:Addr}
 (h:((A3=some ad∧0<n3)∨(A4=some ad∧0<n4))∨w.heap.size≤ad.block):(ad.block≠gt∧ad.block≠gm)∧some ad.block≠v.ownBlock:=by
 rcases h with (⟨e,h0⟩|⟨e,h0⟩)|h
 ·exact h3 ad e h0
 ·exact h4 ad e h0
 ·have hl:=blk_lt hg
  refine⟨⟨by omega,by omega⟩,fun e=>?_⟩
  obtain⟨inner,ho⟩:=Kd.R_own hR;have:=own_lt ho ad.block e.symm;omega
set_option maxHeartbeats 8000000 in
set_option maxRecDepth 100000 in
theorem tag_chain.calls (n m:Nat) (g:ByteArray→Option Int) (bm nm:Nat) (t0:TagT) (A30:Option Addr) (c30:Nat) (A40:Option Addr) (c40:Nat) (Ap:Option Addr) (cp:Nat) (lp:List S45) (r1:List S25) (r2:Int) (w:World)
 (hT:TagR_ w (fun b=>b<w.heap.size) t0 A30 c30 A40 c40) (hm:MapAt w bm nm g) (hp:Kd.C k45 w Ap lp.length lp) (cp':lp.length≤cp) (h:tag_chain.l0 g lp m n (fun _=>none) [] t0=some (r1,r2)):
 Calls Tryz.prog 27 #[.agg #[.string t0.1,.string t0.2.1,.string t0.2.2.1,.slice A30 t0.2.2.2.1.length c30,.slice A40 t0.2.2.2.2.length c40],.map (some bm),.slice Ap lp.length cp] w fun e w'=>∃ v,e=.returned (.tuple #[v,.int .i64 r2])∧Kd.S k25 25 w' w.heap.size (fun _=>True) v r1∧Below w.heap.size w w':=by
 have hu25:=Tryz.underlying25;have hmm:=@run_makeMap Tryz.prog;have HT:=ak_ hT;have HM:=ak_ hm;have HP:=ak_ hp;have H:=ak_ h;clear hT hm hp h;have HB:=ak_ (Below.refl w.heap.size w)
 go_enter Tryz.func27,Tryz.ntmps27
 go_wp2_with ((with_reducible refine gate_dst (N:=3) rfl ?_);refine box_event ?hg (N:=3) ?hd (cs:=#[.string t0.1,.string t0.2.1,.string t0.2.2.1,.slice A30 t0.2.2.2.1.length c30,.slice A40 t0.2.2.2.2.length c40]) (t:=25) ?hr ?_;(case hd=>rfl);(case hg=>rfl);(case hr=>first|(go_simp;done)|(go_simp;rfl));intro gt hg w1 hbox hb;have BT:=ak_ hbox;have GT:=ak_ ((by rw [hg];exact Nat.le_refl _:w.heap.size≤gt));replace HT:=ak_ (HT.out.below hb);replace HB:=ak_ (below_step HB.out hb);clear hb hbox hg)
 have GM:=ak_ (below_size HB.out:w.heap.size≤w1.heap.size);have GL:=ak_ (blk_lt BT.out:gt<w1.heap.size)
 go_loopg [9] n (fun kq v9 w'=>∃ (hd:ByteArray→Option Int) (acc:List S25) (t:TagT) (A3:Option Addr) (c3:Nat) (A4:Option Addr) (c4:Nat),Aside0 (tag_chain.l0 g lp m kq hd acc t=some (r1,r2))∧Aside0 (w'.heap[gt]?=some (.cells #[.string t.1,.string t.2.1,.string t.2.2.1,.slice A3 t.2.2.2.1.length c3,.slice A4 t.2.2.2.2.length c4] 25 (0,0)))∧
  Aside0 (TagR_ w' (fun b=>(b≠gt∧b≠w1.heap.size)∧some b≠v9.ownBlock) t A3 c3 A4 c4)∧Aside0 (MapAt w' w1.heap.size acc.length hd)∧Aside0 (Kd.S k25 25 w' w.heap.size (fun b=>b≠gt∧b≠w1.heap.size) v9 acc)∧Aside0 (Below w.heap.size w w'))
 case atStart=>exact ⟨fun _=>none,[],t0,A30,c30,A40,c40,⟨H.out⟩,⟨blk_alloc BT.out _⟩,⟨(HT.out.below ((Below.refl _ _).alloc (Nat.le_refl _) _)).mono (fun b hb _=>⟨⟨fun e=>by have:=GT.out;omega,fun e=>by have:=GM.out;omega⟩,by simp [Value.ownBlock]⟩)⟩,⟨MapAt.made w1⟩,⟨Kd.S_nil _ _ _ _ _⟩,⟨below_alloc HB.out _⟩⟩
 case round=>
  clear H HT BT HB;obtain⟨hd,acc,t,A3,c3,A4,c4,HA,BT2,HT2,HD,HO,HB2⟩:=hrel;obtain⟨Ao,co,rfl⟩:=Kd.R_slice (Kd.S_R HO.out);obtain⟨hc0,hc1,hc2,hc3,hc4,hf0,hf1,hf2,hf3,hf4⟩:=c5_ BT2;cases gk with
  |zero=>exact absurd HA.out (by simp [tag_chain.l0])
  | succ k1=>
   have h:=HA.out;clear HA;unfold tag_chain.l0 at h;obtain⟨x,hx,h⟩:=Option.bind_eq_some_iff.1 h;have HX:=ak_ hx;clear hx;by_cases hz:x.size≤9223372036854775807
   ·replace h:=(if_pos hz).symm.trans h
    have hz':x.size≤maxLen:=hz;have HZ:=ak_ hz';clear hz hz';cases hg:hd x with
    | some i=>
     rw [hg] at h;have HG:=ak_ hg;obtain h:=Option.some.inj h;obtain⟨rfl,rfl⟩:_∧_:=by simpa only [Prod.mk.injEq] using h
     clear h hg
     go_wp2_with (first
      |(go_at_call 40;refine(tag_text.calls m _ _ _ _ _ t.2.2.2.1 _ _ t.2.2.2.2 x _ HT2.out.1 HT2.out.2.1 HT2.out.2.2.1 HT2.out.2.2.2.1 HX.out).mono ?_;rintro e w3 ⟨rfl,hb⟩;replace BT2:=ak_ (blk_below BT2.out hb);replace HT2:=ak_ (HT2.out.below hb);replace HD:=ak_ (HD.out.below hb);replace HO:=ak_ (Kd.S_below HO.out hb);replace HB2:=ak_ (below_step HB2.out hb);clear hb hc0 hc1 hc2 hc3 hc4 hf0 hf1 hf2 hf3 hf4;obtain⟨hc0,hc1,hc2,hc3,hc4,hf0,hf1,hf2,hf3,hf4⟩:=c5_ BT2)
      |(at_lookup;refine map_look_ _ rfl _ _ rfl w1.heap.size acc.length hd rfl HD.out x rfl HZ.out ?_;rw [HG.out]))
     go_ret2
     exact⟨_,rfl,Kd.S_nil _ _ _ _ _,HB2.out⟩
    | none=>
     rw [hg] at h;have HG:=ak_ hg;clear hg;by_cases hn:acc.length<1000000000000
     ·replace h:=(if_pos hn).symm.trans h
      have HN:=ak_ hn;obtain⟨c,hc,h⟩:=Option.bind_eq_some_iff.1 h;have HC:=ak_ hc;have H:=ak_ h;clear hn hc h
      go_upto_if 33 with (first
       |(go_at_call 40;refine(tag_text.calls m _ _ _ _ _ t.2.2.2.1 _ _ t.2.2.2.2 x _ HT2.out.1 HT2.out.2.1 HT2.out.2.2.1 HT2.out.2.2.2.1 HX.out).mono ?_;rintro e w3 ⟨rfl,hb⟩;replace BT2:=ak_ (blk_below BT2.out hb);replace HT2:=ak_ (HT2.out.below hb);replace HD:=ak_ (HD.out.below hb);replace HO:=ak_ (Kd.S_below HO.out hb);replace HB2:=ak_ (below_step HB2.out hb);clear hb hc0 hc1 hc2 hc3 hc4 hf0 hf1 hf2 hf3 hf4;obtain⟨hc0,hc1,hc2,hc3,hc4,hf0,hf1,hf2,hf3,hf4⟩:=c5_ BT2)
       |(at_lookup;refine map_look_ _ rfl _ _ rfl w1.heap.size acc.length hd rfl HD.out x rfl HZ.out ?_;rw [HG.out])
       |(at_mapUpdate;refine map_store_ _ rfl _ _ _ rfl w1.heap.size acc.length hd rfl HD.out (by have:=HN.out;unfold maxLen;omega) x rfl HZ.out (acc.length:Int) rfl (WalkArith.wf_i64 (by have:=HN.out;omega)) ?_;intro w5 hD5 hgr;replace BT2:=ak_ (blk_grown BT2.out hgr (by simp;have:=GL.out;omega));replace HT2:=ak_ (HT2.out.same (fun b hb hl=>hgr.block b hl (by simp;exact hb.1.2)));replace HO:=ak_ (Kd.S_grown HO.out hgr (fun k hk=>by simp;exact hk.2));replace HB2:=ak_ (HB2.out.grown hgr HB2.out.size (fun j hj=>by cases hj;exact GM.out));have HS5:=ak_ (show gt<w5.heap.size∧w1.heap.size<w5.heap.size∧w.heap.size≤w5.heap.size from ⟨blk_lt BT2.out,hD5.lt,HB2.out.size⟩);replace HD:=ak_ hD5;clear hD5 hgr hc0 hc1 hc2 hc3 hc4 hf0 hf1 hf2 hf3 hf4;obtain⟨hc0,hc1,hc2,hc3,hc4,hf0,hf1,hf2,hf3,hf4⟩:=c5_ BT2)
       |(go_at_call 62;refine(tag_copied.calls t.1 t.2.1 t.2.2.1 A3 c3 t.2.2.2.1 A4 c4 t.2.2.2.2 c.1 c.2.1 c.2.2.1 c.2.2.2.1 c.2.2.2.2 _ HT2.out.1 HT2.out.2.1 HT2.out.2.2.1 HT2.out.2.2.2.1 HC.out).mono ?_;rintro e w6 ⟨v3,v4,rfl,hR3,hR4,hb⟩;have HR3:=ak_ hR3;have HR4:=ak_ hR4;have OB:=ak_ (fun k (hk:some k=(Value.slice Ao acc.length co).ownBlock)=>(by obtain⟨inner,ho⟩:=Kd.R_own (Kd.S_R HO.out);exact own_lt ho k hk.symm:k<w5.heap.size));have H56:=ak_ hb.size;replace BT2:=ak_ (blk_below BT2.out hb);replace HT2:=ak_ (HT2.out.below hb);replace HD:=ak_ (HD.out.below hb);replace HO:=ak_ (Kd.S_mono (ok':=fun k=>(k≠gt∧k≠w1.heap.size)∧¬ w5.heap.size≤k) (Kd.S_old HO.out hb) (fun k hk=>⟨hk.1,Nat.not_le.2 hk.2⟩));replace HB2:=ak_ (below_step HB2.out hb);clear hb hR3 hR4 hc0 hc1 hc2 hc3 hc4 hf0 hf1 hf2 hf3 hf4)
       |((with_reducible refine gate_builtin (b:=.append) (xs:=#[.tmp 27,.tmp 30]) rfl ?_);at_builtin;refine Kd.S_append k25 (w0:=w) w.heap.size rfl (.tmp 27) (.tmp 30) 26 25 (.agg #[(.string ⟨#[]⟩),(.string ⟨#[]⟩),(.string ⟨#[]⟩),(.slice none 0 0),(.slice none 0 0)]) 96 rfl Tryz.underlying26 info25 rfl (by decide) (by omega) (.slice Ao acc.length co) acc (⟨c.1,c.2.1,c.2.2.1,c.2.2.2.1,c.2.2.2.2⟩:S25) [.string c.1,.string c.2.1,.string c.2.2.1,v3,v4] (fun b=>b≠gt∧b≠w1.heap.size) (fun k=>w5.heap.size≤k) rfl (by first|(go_simp;done)|(go_simp;rfl)) ?aP ?aQ ?aF ?aO ?aB ?aS ?aL ?_;(case aP=>exact k25_mkM _ _ _ (⟨c.1,c.2.1,c.2.2.1,c.2.2.2.1,c.2.2.2.2⟩:S25) (Kd.R_lower (Kd.R_mono (Kd.R_bound HR3.out) (fun k hk=>hk.2.1)) HS5.out.2.2) (Kd.R_lower (Kd.R_mono (Kd.R_bound HR4.out) (fun k hk=>hk.2.1)) HS5.out.2.2));(case aQ=>exact (fun k hk=>⟨⟨fun e=>by have:=HS5.out.1;omega,fun e=>by have:=HS5.out.2.1;omega⟩,fun e=>by have:=OB.out k e;omega⟩));(case aF=>exact (fun k hk=>⟨fun e=>by have:=HS5.out.1;have:=H56.out;omega,fun e=>by have:=HS5.out.2.1;have:=H56.out;omega⟩));(case aO=>exact HO.out);(case aB=>exact HB2.out);(case aS=>exact HB2.out.size);(case aL=>exact (by have:=HN.out;omega));intro v1 w7 hR hb hg hat;have HNE:=ak_ (fun k (hk:some k=v1.ownBlock)=>((Kd.S_R hR).1 k hk.symm:k≠gt∧k≠w1.heap.size));replace BT2:=ak_ (blk_grown BT2.out hg (fun e=>((Kd.S_R HO.out).1 gt e.symm).1.1 rfl));replace HT2:=ak_ (((HT2.out.mono (P':=fun b=>((b≠gt∧b≠w1.heap.size)∧some b≠(Value.slice Ao acc.length co).ownBlock)∧b<w6.heap.size) (fun b hb hl=>⟨hb,hl⟩)).same (fun b hb hl=>hg.block b hl hb.1.2)).mono (P':=fun b=>(b≠gt∧b≠w1.heap.size)∧some b≠v1.ownBlock) (fun b hb _=>⟨hb.1.1,NB_ hat hb.1.2 hb.2⟩));replace HD:=ak_ (HD.out.same (hg.block _ HD.out.lt (fun e=>((Kd.S_R HO.out).1 _ e.symm).1.2 rfl)));have HO7:=ak_ hR;replace HB2:=ak_ hb;clear hR hb hg hat;obtain⟨hc0,hc1,hc2,hc3,hc4,hf0,hf1,hf2,hf3,hf4⟩:=c5_ BT2))
      by_cases hu:x.toList=([117,110,100]:List UInt8)
      ·have e1:(x.toList==([117,110,100]:List UInt8))=true:=beq_iff_eq.mpr hu
       rw [e1];obtain h:=Option.some.inj ((if_pos hu).symm.trans H.out);obtain⟨rfl,rfl⟩:_∧_:=by simpa only [Prod.mk.injEq] using h
       clear H hu h
       go_wp2
       go_ret2
       exact⟨_,rfl,Kd.S_mono HO7.out (fun _ _=>trivial),HB2.out⟩
      ·have e1:(x.toList==([117,110,100]:List UInt8))=false:=beq_eq_false_iff_ne.mpr hu
       rw [e1];have h:=(if_neg hu).symm.trans H.out;obtain⟨p,hp,h⟩:=Option.bind_eq_some_iff.1 h;have HPA:=ak_ hp;replace H:=ak_ h;clear hu hp h
       go_wp2_with ((go_at_call 63;refine(tag_parent.calls m g bm nm t.1 t.2.1 t.2.2.1 A3 c3 t.2.2.2.1 A4 c4 t.2.2.2.2 Ap cp lp p _ HT2.out.1 HT2.out.2.1 HT2.out.2.2.1 HT2.out.2.2.2.1 (HM.out.below HB2.out) (Kd.C_below HP.out HB2.out) cp' HPA.out).mono ?_;rintro e w8 ⟨v8,rfl,⟨X3,y3,X4,y4,rfl,q1,q2,q3,q4,q5,q6⟩,hb⟩;have HQ:=ak_ (show TagR_ w8 (fun b=>(b≠gt∧b≠w1.heap.size)∧some b≠v1.ownBlock) p X3 y3 X4 y4 from ⟨q1,q2,q3,q4,fun ad e h0=>PB_ BT2.out HD.out.lt (Kd.S_R HO7.out) HT2.out.2.2.2.2.1 HT2.out.2.2.2.2.2 (q5 ad e h0),fun ad e h0=>PB_ BT2.out HD.out.lt (Kd.S_R HO7.out) HT2.out.2.2.2.2.1 HT2.out.2.2.2.2.2 (q6 ad e h0)⟩);replace BT2:=ak_ (blk_below BT2.out hb);replace HD:=ak_ (HD.out.below hb);replace HO7:=ak_ (Kd.S_below HO7.out hb);replace HB2:=ak_ (below_step HB2.out hb);clear hb q1 q2 q3 q4 q5 q6 hc0 hc1 hc2 hc3 hc4 hf0 hf1 hf2 hf3 hf4;obtain⟨hc0,hc1,hc2,hc3,hc4,hf0,hf1,hf2,hf3,hf4⟩:=c5_ BT2))
       go_roundg k1
       case measure=>omega
       case rel=>exact ⟨_,_,p,X3,y3,X4,y4,⟨H.out⟩,⟨TgB.put BT2.out⟩,⟨HQ.out.same (fun b hb _=>set5_ b hb.1.1)⟩,⟨MapAt.mono (HD.out.same (set5_ _ (by have:=GL.out;omega))) (by simp)⟩,⟨Kd.S_far (Kd.S_far (Kd.S_far (Kd.S_far (Kd.S_far HO7.out (p:=⟨gt,0,none⟩) (fun k hk=>hk.1) _) (p:=⟨gt,1,none⟩) (fun k hk=>hk.1) _) (p:=⟨gt,2,none⟩) (fun k hk=>hk.1) _) (p:=⟨gt,3,none⟩) (fun k hk=>hk.1) _) (p:=⟨gt,4,none⟩) (fun k hk=>hk.1) _⟩,⟨below_set (below_set (below_set (below_set (below_set HB2.out GT.out) GT.out) GT.out) GT.out) GT.out⟩⟩
     ·replace h:=(if_neg hn).symm.trans h
      cases h
   ·replace h:=(if_neg hz).symm.trans h
    cases h
def tag_places.l0 (m:Nat) (lp:List S45):Nat→Nat→(ByteArray→Option Int)→Option (Int×(ByteArray→Option Int))
 |0,_,_=>none
 | k+1,i,g=>if i<lp.length then(tag_bare.f m (rd_T45 lp (i:Int)).f0).bind fun c=>(tag_bare.f m (rd_T45 lp (i:Int)).f1).bind fun p=>
  if c.2.2.2.2.2=true then(if p.2.2.2.2.2=true then(tag_text.f m c.1 c.2.1 c.2.2.1 c.2.2.2.1 c.2.2.2.2.1).bind fun t=>if t.toList=([117,110,100]:List UInt8) then some (70,g)
   else if (rd_T45 lp (i:Int)).f0.size≤9223372036854775807 then(match g (rd_T45 lp (i:Int)).f0 with
    |some _=>some (6,g)
    |none=>tag_places.l0 m lp k (i+1) (fun q=>if q=(rd_T45 lp (i:Int)).f0 then some (i:Int) else g q)) else none
   else some (70,g)) else some (70,g)
  else some (0,g)
def tag_places.f (m:Nat) (lp:List S45):Option (Int×(ByteArray→Option Int)):=if 256<lp.length then some (5,fun _=>none) else tag_places.l0 m lp m 0 (fun _=>none)
theorem c2_ {w:World} {g:Nat} {t:TypeId} {a b:Value} (h:Aside0 (w.heap[g]?=some (.cells #[a,b] t (0,0)))):
 w.cell? ⟨g,0,none⟩=some a∧w.cell? ⟨g,1,none⟩=some b∧w.frozen? ⟨g,0,none⟩=false∧w.frozen? ⟨g,1,none⟩=false:=
 ⟨(blk_cell h.out 0).trans rfl,(blk_cell h.out 1).trans rfl,blk_frozen h.out 0,blk_frozen h.out 1⟩
theorem c2_put {w:World} {g:Nat} {t:TypeId} {a b:Value} {x' y':ByteArray} (h:Aside0 (w.heap[g]?=some (.cells #[a,b] t (0,0)))):
 Aside0 (((w.setCell ⟨g,0,none⟩ (.string x')).setCell ⟨g,1,none⟩ (.string y')).heap[g]?=some (.cells #[.string x',.string y'] t (0,0))):=
 ⟨blk_put (cs':=#[.string x',.string y']) (blk_put (cs':=#[.string x',b]) h.out 0 (.string x') rfl) 1 (.string y') rfl⟩
set_option maxHeartbeats 8000000 in
set_option maxRecDepth 100000 in
theorem tag_places.calls (m:Nat) (Ap:Option Addr) (cp:Nat) (lp:List S45) (e:Int) (g:ByteArray→Option Int) (w:World) (hp:Kd.C k45 w Ap lp.length lp) (cp':lp.length≤cp) (h:tag_places.f m lp=some (e,g)):
 Calls Tryz.prog 26 #[.slice Ap lp.length cp] w fun x w'=>∃ v,x=.returned (.tuple #[v,.int .i64 e])∧(e=0→∃ b n,v=.map (some b)∧MapAt w' b n g)∧Below w.heap.size w w':=by
 have hmm:=@run_makeMap Tryz.prog;have HP:=ak_ hp;have HB:=ak_ (Below.refl w.heap.size w);unfold tag_places.f at h;by_cases h1:256<lp.length
 ·obtain h:=Option.some.inj ((if_pos h1).symm.trans h)
  obtain⟨rfl,rfl⟩:_∧_:=by simpa only [Prod.mk.injEq] using h
  have d1:decide (256<(lp.length:Int))=true:=decide_eq_true (by omega)
  have d2:decide (256<lp.length)=true:=decide_eq_true h1;clear h h1
  go_enter Tryz.func26,Tryz.ntmps26
  go_wp2
  go_ret2
  exact⟨_,rfl,fun h=>absurd h (by decide),Below.refl _ _⟩
 ·have h :=(if_neg h1).symm.trans h
  have H:=ak_ h;have d1:decide (256<(lp.length:Int))=false:=decide_eq_false (by omega)
  have d2:decide (256<lp.length)=false:=decide_eq_false h1;clear h hp
  go_enter Tryz.func26,Tryz.ntmps26
  go_wp2
  go_loopg [19] m (fun kq v19 w'=>∃ (i:Nat) (gg:ByteArray→Option Int),v19=.int .i64 (i:Int)∧Aside0 (tag_places.l0 m lp kq i gg=some (e,g))∧Aside0 (i≤lp.length)∧Aside0 (MapAt w' w.heap.size i gg)∧Aside0 (Below w.heap.size w w'))
  case atStart=>exact ⟨0,fun _=>none,rfl,H,⟨Nat.zero_le _⟩,⟨MapAt.made w⟩,⟨below_alloc HB.out _⟩⟩
  case round=>
   clear H HB;obtain⟨i,gg,rfl,HA,HI,HD,HB⟩:=hrel;cases gk with
   |zero=>exact absurd HA.out (by simp [tag_places.l0])
   | succ k1=>
    have h:=HA.out;clear HA;unfold tag_places.l0 at h;by_cases hi:i<lp.length
    ·replace h:=(if_pos hi).symm.trans h
     have e1:decide ((i:Int)<(lp.length:Int))=true:=decide_eq_true (by omega)
     have e2:((i:Int)<(lp.length:Int))=True:=eq_true (by omega)
     have e3:(0≤(i:Int))=True:=eq_true (by omega)
     obtain⟨c,hc,h⟩:=Option.bind_eq_some_iff.1 h;obtain⟨p,hpp,h⟩:=Option.bind_eq_some_iff.1 h;have HC:=ak_ hc;have HPP:=ak_ hpp;have H:=ak_ h;obtain⟨ad,e45,hx0,hx1⟩:=at_T45 HP.out (i:Int) (by omega) (by omega)
     subst e45;simp only [Int.toNat_natCast] at hx0 hx1;replace hx0:=hx_ HB.out hx0;replace hx1:=hx_ HB.out hx1;clear hc hpp h
     go_upto_region 7 with (first
      |((with_reducible refine gate_dst (N:=6) rfl ?_);refine box_event ?hg (N:=6) ?hd (cs:=#[.string ⟨#[]⟩,.string ⟨#[]⟩]) (t:=45) ?hr ?_;(case hd=>rfl);(case hg=>rfl);(case hr=>first|(go_simp;done)|(go_simp;rfl));intro gp hg w1 hbox hb;have BP:=ak_ hbox;have GP:=ak_ ((by rw [hg];exact below_size HB.out:w.heap.size≤gp));have NG:=ak_ ((by rw [hg];exact Nat.ne_of_lt HD.out.lt:w.heap.size≠gp));replace HD:=ak_ (HD.out.below hb);replace HB:=ak_ (below_step HB.out hb);have pc0:w1.cell? ⟨gp,0,none⟩=some (.string ⟨#[]⟩):=(blk_cell BP.out 0).trans rfl;have pc1:w1.cell? ⟨gp,1,none⟩=some (.string ⟨#[]⟩):=(blk_cell BP.out 1).trans rfl;have pf0:=blk_frozen BP.out 0;have pf1:=blk_frozen BP.out 1;clear hb hbox hg))
     have BP2:=c2_put BP (x':=(rd_T45 lp (i:Int)).f0) (y':=(rd_T45 lp (i:Int)).f1);replace HD:=ak_ (HD.out.same (w':=(w1.setCell ⟨gp,0,none⟩ (.string (rd_T45 lp (i:Int)).f0)).setCell ⟨gp,1,none⟩ (.string (rd_T45 lp (i:Int)).f1)) ((Below.heap_setCell _ _ _ _ NG.out).trans (Below.heap_setCell _ _ _ _ NG.out)));replace HB:=ak_ (below_set (below_set HB.out GP.out (j:=0) (v:=.string (rd_T45 lp (i:Int)).f0)) GP.out (j:=1) (v:=.string (rd_T45 lp (i:Int)).f1));clear BP pc0 pc1 pf0 pf1;have BP:=BP2;clear BP2;generalize (w1.setCell ⟨gp,0,none⟩ (.string (rd_T45 lp (i:Int)).f0)).setCell ⟨gp,1,none⟩ (.string (rd_T45 lp (i:Int)).f1)=w2 at BP HD HB ⊢;obtain⟨pc0,pc1,pf0,pf1⟩:=c2_ BP;have HL:=ak_ (Below.refl w2.heap.size w2)
     go_upto_region 8 with (first
      |(go_at_call 61;refine(tag_bare.calls m (rd_T45 lp (i:Int)).f0 c.1 c.2.1 c.2.2.1 c.2.2.2.1 c.2.2.2.2.1 c.2.2.2.2.2 _ HC.out).mono ?_;rintro e w3 ⟨v3,v4,rfl,hR3,hR4,hb⟩;obtain⟨B3,d3,rfl,l3,hC3⟩:=Kd.R_reads hR3;obtain⟨B4,d4,rfl,l4,hC4⟩:=Kd.R_reads hR4;have HR3:=ak_ hR3;have HR4:=ak_ hR4;replace HL:=ak_ (below_step HL.out hb);clear hb hR3 hR4 hC3 hC4 pc0 pc1 pf0 pf1)
      |((with_reducible refine gate_dst (N:=7) rfl ?_);refine box_event ?hg (N:=7) ?hd (cs:=#[.string ⟨#[]⟩,.string ⟨#[]⟩,.string ⟨#[]⟩,.slice none 0 0,.slice none 0 0]) (t:=25) ?hr ?_;(case hd=>rfl);(case hg=>rfl);(case hr=>first|(go_simp;done)|(go_simp;rfl));intro gc hg w4 hbox hb;have BC:=ak_ hbox;have GC:=ak_ ((by rw [hg];exact below_size HL.out:w2.heap.size≤gc));replace HR3:=ak_ (Kd.R_below HR3.out hb);replace HR4:=ak_ (Kd.R_below HR4.out hb);replace HL:=ak_ (below_step HL.out hb);clear hb hbox hg;obtain⟨rc0,rc1,rc2,rc3,rc4,rf0,rf1,rf2,rf3,rf4⟩:=c5_ BC))
     have BC2:=ak_ (TgB.put (l':=c.1) (s':=c.2.1) (r':=c.2.2.1) (V3':=.slice B3 c.2.2.2.1.length d3) (V4':=.slice B4 c.2.2.2.2.1.length d4) (show TgB w4 gc ⟨#[]⟩ ⟨#[]⟩ ⟨#[]⟩ (.slice none 0 0) (.slice none 0 0) from BC.out))
     have R3:=TgB.keepR (l':=c.1) (s':=c.2.1) (r':=c.2.2.1) (V3':=.slice B3 c.2.2.2.1.length d3) (V4':=.slice B4 c.2.2.2.2.1.length d4) (show TgB w4 gc ⟨#[]⟩ ⟨#[]⟩ ⟨#[]⟩ (.slice none 0 0) (.slice none 0 0) from BC.out) HR3.out (by decide)
     have R4:=TgB.keepR (l':=c.1) (s':=c.2.1) (r':=c.2.2.1) (V3':=.slice B3 c.2.2.2.1.length d3) (V4':=.slice B4 c.2.2.2.2.1.length d4) (show TgB w4 gc ⟨#[]⟩ ⟨#[]⟩ ⟨#[]⟩ (.slice none 0 0) (.slice none 0 0) from BC.out) HR4.out (by decide)
     have HL2:=below_set (below_set (below_set (below_set (below_set HL.out GC.out (j:=0) (v:=.string c.1)) GC.out (j:=1) (v:=.string c.2.1)) GC.out (j:=2) (v:=.string c.2.2.1)) GC.out (j:=3) (v:=.slice B3 c.2.2.2.1.length d3)) GC.out (j:=4) (v:=.slice B4 c.2.2.2.2.1.length d4);obtain⟨X3,y3,E3,m3,C3⟩:=Kd.R_reads R3;obtain⟨X4,y4,E4,m4,C4⟩:=Kd.R_reads R4
     injection E3 with e31 e32 e33
     injection E4 with e41 e42 e43
     subst e31 e33 e41 e43;have HC3:=ak_ C3;have HC4:=ak_ C4;replace BP:=ak_ (blk_below BP.out HL2);replace HD:=ak_ (HD.out.below HL2);replace HB:=ak_ (below_step HB.out HL2);clear BC R3 R4 C3 C4 HL HL2 HR3 HR4 rc0 rc1 rc2 rc3 rc4 rf0 rf1 rf2 rf3 rf4 e32 e42;have BC:=BC2;clear BC2;generalize (((((w4.setCell ⟨gc,0,none⟩ (.string c.1)).setCell ⟨gc,1,none⟩ (.string c.2.1)).setCell ⟨gc,2,none⟩ (.string c.2.2.1)).setCell ⟨gc,3,none⟩ (.slice B3 c.2.2.2.1.length d3)).setCell ⟨gc,4,none⟩ (.slice B4 c.2.2.2.2.1.length d4))=w5 at BC BP HD HB HC3 HC4 ⊢;obtain⟨pc0,pc1,pf0,pf1⟩:=c2_ BP;have HL:=ak_ (Below.refl w5.heap.size w5)
     go_upto_region 9 with (first
      |(go_at_call 61;refine(tag_bare.calls m (rd_T45 lp (i:Int)).f1 p.1 p.2.1 p.2.2.1 p.2.2.2.1 p.2.2.2.2.1 p.2.2.2.2.2 _ HPP.out).mono ?_;rintro e w6 ⟨u3,u4,rfl,hR3,hR4,hb⟩;obtain⟨B5,d5,rfl,_,_⟩:=Kd.R_reads hR3;obtain⟨B6,d6,rfl,_,_⟩:=Kd.R_reads hR4;replace HL:=ak_ (below_step HL.out hb);clear hb hR3 hR4 pc0 pc1 pf0 pf1)
      |((with_reducible refine gate_dst (N:=9) rfl ?_);refine box_event ?hg (N:=9) ?hd (cs:=#[.string ⟨#[]⟩,.string ⟨#[]⟩,.string ⟨#[]⟩,.slice none 0 0,.slice none 0 0]) (t:=25) ?hr ?_;(case hd=>rfl);(case hg=>rfl);(case hr=>first|(go_simp;done)|(go_simp;rfl));intro gq hg w7 hbox hb;have BQ:=ak_ hbox;have GQ:=ak_ ((by rw [hg];exact below_size HL.out:w5.heap.size≤gq));replace HL:=ak_ (below_step HL.out hb);clear hb hbox hg;obtain⟨rc0,rc1,rc2,rc3,rc4,rf0,rf1,rf2,rf3,rf4⟩:=c5_ BQ))
     have HL2:=below_set (below_set (below_set (below_set (below_set HL.out GQ.out (j:=0) (v:=.string p.1)) GQ.out (j:=1) (v:=.string p.2.1)) GQ.out (j:=2) (v:=.string p.2.2.1)) GQ.out (j:=3) (v:=.slice B5 p.2.2.2.1.length d5)) GQ.out (j:=4) (v:=.slice B6 p.2.2.2.2.1.length d6);replace BP:=ak_ (blk_below BP.out HL2);replace BC:=ak_ (show TgB _ gc c.1 c.2.1 c.2.2.1 (.slice B3 c.2.2.2.1.length d3) (.slice B4 c.2.2.2.2.1.length d4) from blk_below BC.out HL2)
     replace HC3:=ak_ (Kd.C_below HC3.out HL2);replace HC4:=ak_ (Kd.C_below HC4.out HL2);replace HD:=ak_ (HD.out.below HL2);replace HB:=ak_ (below_step HB.out HL2);clear BQ HL HL2 rc0 rc1 rc2 rc3 rc4 rf0 rf1 rf2 rf3 rf4;generalize (((((w7.setCell ⟨gq,0,none⟩ (.string p.1)).setCell ⟨gq,1,none⟩ (.string p.2.1)).setCell ⟨gq,2,none⟩ (.string p.2.2.1)).setCell ⟨gq,3,none⟩ (.slice B5 p.2.2.2.1.length d5)).setCell ⟨gq,4,none⟩ (.slice B6 p.2.2.2.2.1.length d6))=w8 at BC BP HD HB HC3 HC4 ⊢;obtain⟨pc0,pc1,pf0,pf1⟩:=c2_ BP;obtain⟨rc0,rc1,rc2,rc3,rc4,rf0,rf1,rf2,rf3,rf4⟩:=c5_ BC;cases hcb:c.2.2.2.2.2 with
     |false=>
      rw [hcb] at H;obtain h:=Option.some.inj ((if_neg (by simp)).symm.trans H.out)
      obtain⟨rfl,rfl⟩:_∧_:=by simpa only [Prod.mk.injEq] using h
      clear H h
      go_wp2
      go_ret2
      exact⟨_,rfl,fun h=>absurd h (by decide),HB.out⟩
     | true=>
      rw [hcb] at H;replace H:=ak_ ((if_pos rfl).symm.trans H.out);cases hpb:p.2.2.2.2.2 with
      |false=>
       rw [hpb] at H;obtain h:=Option.some.inj ((if_neg (by simp)).symm.trans H.out)
       obtain⟨rfl,rfl⟩:_∧_:=by simpa only [Prod.mk.injEq] using h
       clear H h
       go_wp2
       go_ret2
       exact⟨_,rfl,fun h=>absurd h (by decide),HB.out⟩
      | true=>
       rw [hpb] at H;have h:=(if_pos rfl).symm.trans H.out;clear H;obtain⟨t,ht,h⟩:=Option.bind_eq_some_iff.1 h;have HT:=ak_ ht;have H:=ak_ h;clear ht h;by_cases hu:t.toList=([117,110,100]:List UInt8)
       ·have u1:(t.toList==([117,110,100]:List UInt8))=true:=beq_iff_eq.mpr hu
        obtain h:=Option.some.inj ((if_pos hu).symm.trans H.out);obtain⟨rfl,rfl⟩:_∧_:=by simpa only [Prod.mk.injEq] using h
        clear H h hu
        go_wp2_with (go_at_call 40;refine(tag_text.calls m c.1 c.2.1 c.2.2.1 B3 d3 c.2.2.2.1 B4 d4 c.2.2.2.2.1 t _ HC3.out l3 HC4.out l4 HT.out).mono ?_;rintro e w9 ⟨rfl,hb⟩;replace BP:=ak_ (blk_below BP.out hb);replace HD:=ak_ (HD.out.below hb);replace HB:=ak_ (below_step HB.out hb);clear hb pc0 pc1 pf0 pf1 rc0 rc1 rc2 rc3 rc4 rf0 rf1 rf2 rf3 rf4;obtain⟨pc0,pc1,pf0,pf1⟩:=c2_ BP)
        go_ret2
        exact⟨_,rfl,fun h=>absurd h (by decide),HB.out⟩
       ·have u1:(t.toList==([117,110,100]:List UInt8))=false:=beq_eq_false_iff_ne.mpr hu
        replace H:=ak_ ((if_neg hu).symm.trans H.out);clear hu;by_cases hz:(rd_T45 lp (i:Int)).f0.size≤9223372036854775807
        ·replace H:=ak_ ((if_pos hz).symm.trans H.out)
         have hz':(rd_T45 lp (i:Int)).f0.size≤maxLen:=hz;have HZ:=ak_ hz';clear hz hz';cases hg:gg (rd_T45 lp (i:Int)).f0 with
         |some jj=>
          have HG:=ak_ hg;have h:=H.out;rw [hg] at h;obtain h:=Option.some.inj h;obtain⟨rfl,rfl⟩:_∧_:=by simpa only [Prod.mk.injEq] using h
          clear H h hg
          go_wp2_with (first|(go_at_call 40;refine(tag_text.calls m c.1 c.2.1 c.2.2.1 B3 d3 c.2.2.2.1 B4 d4 c.2.2.2.2.1 t _ HC3.out l3 HC4.out l4 HT.out).mono ?_;rintro e w9 ⟨rfl,hb⟩;replace BP:=ak_ (blk_below BP.out hb);replace HD:=ak_ (HD.out.below hb);replace HB:=ak_ (below_step HB.out hb);clear hb pc0 pc1 pf0 pf1 rc0 rc1 rc2 rc3 rc4 rf0 rf1 rf2 rf3 rf4;obtain⟨pc0,pc1,pf0,pf1⟩:=c2_ BP)|(at_lookup;refine map_look_ _ rfl _ _ rfl w.heap.size i gg rfl HD.out (rd_T45 lp (i:Int)).f0 rfl HZ.out ?_;rw [HG.out]))
          go_ret2
          exact⟨_,rfl,fun h=>absurd h (by decide),HB.out⟩
         |none=>
          have HG:=ak_ hg;have h:=H.out;rw [hg] at h;have H2:=ak_ h;clear H h hg;have HN:=ak_ (show i<256 by omega)
          go_wp2_with (first|(go_at_call 40;refine(tag_text.calls m c.1 c.2.1 c.2.2.1 B3 d3 c.2.2.2.1 B4 d4 c.2.2.2.2.1 t _ HC3.out l3 HC4.out l4 HT.out).mono ?_;rintro e w9 ⟨rfl,hb⟩;replace BP:=ak_ (blk_below BP.out hb);replace HD:=ak_ (HD.out.below hb);replace HB:=ak_ (below_step HB.out hb);clear hb pc0 pc1 pf0 pf1 rc0 rc1 rc2 rc3 rc4 rf0 rf1 rf2 rf3 rf4;obtain⟨pc0,pc1,pf0,pf1⟩:=c2_ BP)|(at_lookup;refine map_look_ _ rfl _ _ rfl w.heap.size i gg rfl HD.out (rd_T45 lp (i:Int)).f0 rfl HZ.out ?_;rw [HG.out])|(at_mapUpdate;refine map_store_ _ rfl _ _ _ rfl w.heap.size i gg rfl HD.out (by have:=HN.out;unfold maxLen;omega) (rd_T45 lp (i:Int)).f0 rfl HZ.out (i:Int) rfl (WalkArith.wf_i64 (by have:=HN.out;omega)) ?_;intro w10 hD10 hgr;replace HB:=ak_ (HB.out.grown hgr HB.out.size (fun j hj=>by cases hj;exact Nat.le_refl _));replace HD:=ak_ hD10;clear hD10 hgr pc0 pc1 pf0 pf1))
          go_roundg k1
          case measure=>omega
          case rel=>exact ⟨i+1,_,by go_num,⟨H2.out⟩,⟨by omega⟩,⟨HD.out⟩,⟨HB.out⟩⟩
        ·cases (if_neg hz).symm.trans H.out
    ·replace h:=(if_neg hi).symm.trans h
     obtain h:=Option.some.inj h;obtain⟨rfl,rfl⟩:_∧_:=by simpa only [Prod.mk.injEq] using h
     have e1:decide ((i:Int)<(lp.length:Int))=false:=decide_eq_false (by omega)
     have e4:decide (i<lp.length)=false:=decide_eq_false hi;clear h hi
     go_wp2
     go_ret2
     first|exact⟨_,rfl,fun _=>⟨_,_,rfl,HD.out⟩,HB.out⟩|exact⟨_,rfl,⟨_,rfl,_,HD.out⟩,HB.out⟩
def tag_Chain.f (k:Nat) (aC:ByteArray) (aD:ByteArray) (aE:ByteArray) (aA:List ByteArray) (aB:List S39) (l1:List S45):Option ((List S25)×Int):=
 (tag_Check.f k aC aD aE aA aB).bind fun e=>if e=0 then(tag_places.f k l1).bind fun q=>if q.1=0 then tag_chain.l0 q.2 l1 k k (fun _=>none) [] (aC,aD,aE,aA,aB) else some ([],q.1) else some ([],e)
set_option maxHeartbeats 8000000 in
set_option maxRecDepth 100000 in
theorem tag_Chain.calls (k:Nat) (aC:ByteArray) (aD:ByteArray) (aE:ByteArray) (aF:Option Addr) (aG:Nat) (aA:List ByteArray) (aH:Option Addr) (aI:Nat) (aB:List S39) (A1:Option Addr) (c1:Nat) (l1:List S45) (r1:List S25) (r2:Int) (w:World) (hr0_3:Kd.C Kd.string w aF aA.length aA) (hc0_3:aA.length≤aG) (hr0_4:Kd.C k39 w aH aB.length aB) (hc0_4:aB.length≤aI) (hr1:Kd.C k45 w A1 l1.length l1) (hc1:l1.length≤c1) (hT:Tbl w) (h:tag_Chain.f k aC aD aE aA aB l1=some (r1,r2)):
 Calls Tryz.prog 10 #[.agg #[.string aC,.string aD,.string aE,.slice aF aA.length aG,.slice aH aB.length aI],.slice A1 l1.length c1] w fun e w'=>∃ v0_:Value,e=.returned (.tuple #[v0_,.int .i64 r2])∧Kd.S k25 25 w' w.heap.size (fun _=>True) v0_ r1∧Below w.heap.size w w':=by
 have hu25:=Tryz.underlying25;have HV:=ak_ hr0_3;have HK:=ak_ hr0_4;have HP:=ak_ hr1;have HT:=ak_ hT;have HB:=ak_ (Below.refl w.heap.size w);clear hr0_3 hr0_4 hr1 hT;unfold tag_Chain.f at h;obtain⟨e,he,h⟩:=Option.bind_eq_some_iff.1 h;have HE:=ak_ he;clear he;by_cases h0:e=0
 ·replace h:=(if_pos h0).symm.trans h
  subst h0;obtain⟨⟨e2,g⟩,hq,h⟩:=Option.bind_eq_some_iff.1 h;have HQ:=ak_ hq;clear hq;by_cases h2:e2=0
  ·replace h:=(if_pos h2).symm.trans h
   subst h2;have H:=ak_ h;clear h
   go_enter Tryz.func10,Tryz.ntmps10
   go_wp2_with (first
    |((with_reducible refine gate_dst (N:=2) rfl ?_);refine box_event ?hg (N:=2) ?hd (cs:=#[.string aC,.string aD,.string aE,.slice aF aA.length aG,.slice aH aB.length aI]) (t:=25) ?hr ?_;(case hd=>rfl);(case hg=>rfl);(case hr=>first|(go_simp;done)|(go_simp;rfl));intro gt hg w1 hbox hb;have BT:=ak_ hbox;replace HB:=ak_ (below_step HB.out hb);clear hb hbox hg;obtain⟨hc0,hc1',hc2,hc3,hc4,hf0,hf1,hf2,hf3,hf4⟩:=c5_ BT)
    |(go_at_call 24;refine(tag_Check.calls k aC aD aE aF aG aA aH aI aB 0 _ (Kd.C_below HV.out HB.out) hc0_3 (Kd.C_below HK.out HB.out) hc0_4 (Tbl.below HT.out HB.out) HE.out).mono ?_;rintro e w2 ⟨rfl,hb⟩;replace BT:=ak_ (blk_below BT.out hb);replace HB:=ak_ (below_step HB.out hb);clear hb hc0 hc1' hc2 hc3 hc4 hf0 hf1 hf2 hf3 hf4;obtain⟨hc0,hc1',hc2,hc3,hc4,hf0,hf1,hf2,hf3,hf4⟩:=c5_ BT)
    |(go_at_call 26;refine(tag_places.calls k A1 c1 l1 0 g _ (Kd.C_below HP.out HB.out) hc1 HQ.out).mono ?_;rintro e w3 ⟨v,rfl,hv,hb⟩;obtain⟨b,n,rfl,hm⟩:=hv rfl;have HM:=ak_ hm;replace BT:=ak_ (blk_below BT.out hb);replace HB:=ak_ (below_step HB.out hb);clear hv hm hb hc0 hc1' hc2 hc3 hc4 hf0 hf1 hf2 hf3 hf4;obtain⟨hc0,hc1',hc2,hc3,hc4,hf0,hf1,hf2,hf3,hf4⟩:=c5_ BT)
    |(go_at_call 27;refine(tag_chain.calls k k g b n (aC,aD,aE,aA,aB) aF aG aH aI A1 c1 l1 r1 r2 _ (TagR_.mono (P:=fun _=>True) ⟨Kd.C_below HV.out HB.out,hc0_3,Kd.C_below HK.out HB.out,hc0_4,fun _ _ _=>trivial,fun _ _ _=>trivial⟩ (fun b _ hl=>hl)) HM.out (Kd.C_below HP.out HB.out) hc1 H.out).mono ?_;rintro e w4 ⟨v,rfl,hR,hb⟩;have HR:=ak_ (Kd.S_lower hR (below_size HB.out));replace HB:=ak_ (below_step HB.out hb);clear hR hb hc0 hc1' hc2 hc3 hc4 hf0 hf1 hf2 hf3 hf4))
   go_ret2
   exact⟨_,rfl,HR.out,HB.out⟩
  ·obtain h:=Option.some.inj ((if_neg h2).symm.trans h)
   obtain⟨rfl,rfl⟩:_∧_:=by simpa only [Prod.mk.injEq] using h
   have d1:(e2==0)=false:=beq_eq_false_iff_ne.mpr h2;have d2:(e2 != 0)=true:=bne_iff_ne.mpr h2;clear h
   go_enter Tryz.func10,Tryz.ntmps10
   go_wp2_with (first
    |((with_reducible refine gate_dst (N:=2) rfl ?_);refine box_event ?hg (N:=2) ?hd (cs:=#[.string aC,.string aD,.string aE,.slice aF aA.length aG,.slice aH aB.length aI]) (t:=25) ?hr ?_;(case hd=>rfl);(case hg=>rfl);(case hr=>first|(go_simp;done)|(go_simp;rfl));intro gt hg w1 hbox hb;have BT:=ak_ hbox;replace HB:=ak_ (below_step HB.out hb);clear hb hbox hg;obtain⟨hc0,hc1',hc2,hc3,hc4,hf0,hf1,hf2,hf3,hf4⟩:=c5_ BT)
    |(go_at_call 24;refine(tag_Check.calls k aC aD aE aF aG aA aH aI aB 0 _ (Kd.C_below HV.out HB.out) hc0_3 (Kd.C_below HK.out HB.out) hc0_4 (Tbl.below HT.out HB.out) HE.out).mono ?_;rintro e w2 ⟨rfl,hb⟩;replace BT:=ak_ (blk_below BT.out hb);replace HB:=ak_ (below_step HB.out hb);clear hb hc0 hc1' hc2 hc3 hc4 hf0 hf1 hf2 hf3 hf4;obtain⟨hc0,hc1',hc2,hc3,hc4,hf0,hf1,hf2,hf3,hf4⟩:=c5_ BT)
    |(go_at_call 26;refine(tag_places.calls k A1 c1 l1 e2 g _ (Kd.C_below HP.out HB.out) hc1 HQ.out).mono ?_;rintro e w3 ⟨v,rfl,_,hb⟩;replace HB:=ak_ (below_step HB.out hb);clear hb hc0 hc1' hc2 hc3 hc4 hf0 hf1 hf2 hf3 hf4))
   go_ret2
   exact⟨_,rfl,Kd.S_nil _ _ _ _ _,HB.out⟩
 ·obtain h:=Option.some.inj ((if_neg h0).symm.trans h)
  obtain⟨rfl,rfl⟩:_∧_:=by simpa only [Prod.mk.injEq] using h
  have d1:(e==0)=false:=beq_eq_false_iff_ne.mpr h0;have d2:(e != 0)=true:=bne_iff_ne.mpr h0;clear h
  go_enter Tryz.func10,Tryz.ntmps10
  go_wp2_with (first
   |((with_reducible refine gate_dst (N:=2) rfl ?_);refine box_event ?hg (N:=2) ?hd (cs:=#[.string aC,.string aD,.string aE,.slice aF aA.length aG,.slice aH aB.length aI]) (t:=25) ?hr ?_;(case hd=>rfl);(case hg=>rfl);(case hr=>first|(go_simp;done)|(go_simp;rfl));intro gt hg w1 hbox hb;have BT:=ak_ hbox;replace HB:=ak_ (below_step HB.out hb);clear hb hbox hg;obtain⟨hc0,hc1',hc2,hc3,hc4,hf0,hf1,hf2,hf3,hf4⟩:=c5_ BT)
   |(go_at_call 24;refine(tag_Check.calls k aC aD aE aF aG aA aH aI aB e _ (Kd.C_below HV.out HB.out) hc0_3 (Kd.C_below HK.out HB.out) hc0_4 (Tbl.below HT.out HB.out) HE.out).mono ?_;rintro e w2 ⟨rfl,hb⟩;replace HB:=ak_ (below_step HB.out hb);clear hb hc0 hc1' hc2 hc3 hc4 hf0 hf1 hf2 hf3 hf4))
  go_ret2
  exact⟨_,rfl,Kd.S_nil _ _ _ _ _,HB.out⟩
def i7_parent.l0 (m:Nat) (l s r:ByteArray) (V:List ByteArray) (K:List S39) (lp:List S45):Nat→Nat→Option (Option Nat)
 |0,_=>none
 |k+1,i=>if i<lp.length then(i7_text.f m l s r V K).bind fun x=>if (rd_T45 lp (i:Int)).f0.toList=x.toList then some (some i) else i7_parent.l0 m l s r V K lp k (i+1) else some none
def i7_parent.f (m:Nat) (l s r:ByteArray) (V:List ByteArray) (K:List S39) (lp:List S45):Option TagT:=
 if 0<K.length then some (l,s,r,V,[]) else(i7_parent.l0 m l s r V K lp m 0).bind fun o=>match o with
  |some i=>(i7_canonical.f m (rd_T45 lp (i:Int)).f1).bind fun q=>some (q.1,q.2.1,q.2.2.1,q.2.2.2.1,q.2.2.2.2.1)
  |none=>if 0<V.length then(if V.length<8796093022208 then some (l,s,r,V.take (V.length - 1),K) else none) else if r.toList=([]:List UInt8) then(if s.toList=([]:List UInt8) then some (⟨#[]⟩,s,r,V,K) else some (l,⟨#[]⟩,r,V,K)) else some (l,s,⟨#[]⟩,V,K)
def i7_parent.T7:Bool×List (List Nat×List Nat):=(true,[([],[]),([],[]),([0,1],[0,1]),([2],[2]),([3],[3]),([],[]),([5],[5]),([4,6],[4,6])])
def i7_parent.B7:List Nat:=[0,0,3,7,15,0,32,127]
theorem i7_parent.tab7:rtab .any (opsOf Tryz.f71 7)=i7_parent.T7:=by kernel_rfl
theorem i7_parent.bits7:waitsOk i7_parent.T7.2 i7_parent.B7=true:=by kernel_rfl
theorem V_ok_ {α:Type} {d:Kd α} {e base:Nat} {ok:Nat→Prop} {w:World} {A:Option Addr} {n c:Nat} {xs:List α} (h:d.V e w base ok (.slice A n c) xs) (hs:0<d.sz) {ad:Addr} (hA:A=some ad) (h0:0<xs.length):ok ad.block:=by
 refine Classical.byContradiction fun hn=>?_;have hC:=(Kd.V_at h).2.2 { w with heap:=w.heap.setIfInBounds ad.block (.map #[] 0) } (fun k hk _=>by
  have:ad.block≠k:=fun q=>hn (by rw [q];exact hk)
  show(w.heap.setIfInBounds ad.block (.map #[] 0))[k]?=_;rw [Array.getElem?_setIfInBounds,if_neg this])
 obtain⟨ad',q,hc⟩:=hC.2.2 h0;rw [hA] at q;obtain rfl:=Option.some.inj q;obtain⟨c0,hl,_,hcell⟩:=hc 0 _ (List.getElem?_eq_getElem h0);have h1:=hcell 0 _ (List.getElem?_eq_getElem (by omega))
 have h2:=World.block_lt_of_cell? _ _ h1;rw [add_block_] at h2;unfold World.cell? at h1;rw [add_block_] at h1;have h3:(w.heap.setIfInBounds ad.block (.map #[] 0))[ad.block]?=some (.map #[] 0):=by
  have h4:ad.block<w.heap.size:=by simpa using h2
  rw [Array.getElem?_setIfInBounds,if_pos rfl,if_pos h4]
 simp only [h3] at h1;cases h1
set_option maxHeartbeats 8000000 in
set_option maxRecDepth 100000 in
theorem i7_parent.calls (m:Nat) (l s r:ByteArray) (A3:Option Addr) (c3:Nat) (V:List ByteArray) (A4:Option Addr) (c4:Nat) (K:List S39) (Ap:Option Addr) (cp:Nat) (lp:List S45) (t:TagT) (w:World)
 (hV:Kd.C Kd.string w A3 V.length V) (cV:V.length≤c3) (hK:Kd.C k39 w A4 K.length K) (cK:K.length≤c4) (hp:Kd.C k45 w Ap lp.length lp) (cp':lp.length≤cp) (h:i7_parent.f m l s r V K lp=some t):
 Calls Tryz.prog 71 #[.agg #[.string l,.string s,.string r,.slice A3 V.length c3,.slice A4 K.length c4],.slice Ap lp.length cp] w fun e w'=>∃ v,e=.returned v∧TagV_ w' (fun ad=>((A3=some ad∧0<V.length)∨(A4=some ad∧0<K.length))∨w.heap.size≤ad.block) v t∧Below w.heap.size w w':=by
 have hu25:=Tryz.underlying25;have HV:=ak_ hV;have HK:=ak_ hK;have HP:=ak_ hp;clear hV hK hp;have HB:=ak_ (Below.refl w.heap.size w);unfold i7_parent.f at h;by_cases h1:0<K.length
 ·obtain h:=Option.some.inj ((if_pos h1).symm.trans h)
  subst h;have d1:decide (0<(K.length:Int))=true:=decide_eq_true (by omega)
  have d2:decide (0<K.length)=true:=decide_eq_true h1;clear h1
  go_enter Tryz.func71,Tryz.ntmps71
  go_wp2_with (first
   |((with_reducible refine gate_dst (N:=2) rfl ?_);refine bx_ 2 #[.string l,.string s,.string r,.slice A3 V.length c3,.slice A4 K.length c4] 25 ?_;intro gt hg w1 hbox hb;have BT:=ak_ hbox;have GT:=ak_ ((by rw [hg];exact Nat.le_refl _:w.heap.size≤gt));replace HB:=ak_ (below_step HB.out hb);clear hb hbox hg)
   |((with_reducible refine gate_dst (N:=4) rfl ?_);refine bx_ 4 #[.string ⟨#[]⟩,.string ⟨#[]⟩,.string ⟨#[]⟩,.slice none 0 0,.slice none 0 0] 25 ?_;intro gr hg w2 hbox hb;have BR:=ak_ hbox;have NE:=ak_ ((by rw [hg];exact Nat.ne_of_lt (blk_lt BT.out):gt≠gr));have GR:=ak_ ((by rw [hg];exact below_size HB.out:w.heap.size≤gr));replace BT:=ak_ (blk_below BT.out hb);replace HB:=ak_ (below_step HB.out hb);clear hb hbox hg;obtain⟨hc0,hc1,hc2,hc3,hc4,hf0,hf1,hf2,hf3,hf4⟩:=c5_ BT;obtain⟨rc0,rc1,rc2,rc3,rc4,rf0,rf1,rf2,rf3,rf4⟩:=c5_ BR;have hne:=NE.out;have hne2:=NE.out.symm))
  refine bodyPost_ret (results_cell_row rfl _ _ gr 25 #[.string l,.string s,.string r,.slice A3 V.length c3,.slice none 0 0] (0,0) _ rfl (TgB.put (blk_far BR.out NE.out.symm _)) Tryz.underlying25 rfl (by kernel_rfl)) rfl ?_
  have hb':=below_set (below_set (below_set (below_set (below_set ((below_set HB.out GT.out (j:=4) (v:=.slice none 0 0))) GR.out (j:=0) (v:=.string l)) GR.out (j:=1) (v:=.string s)) GR.out (j:=2) (v:=.string r)) GR.out (j:=3) (v:=.slice A3 V.length c3)) GR.out (j:=4) (v:=.slice none 0 0);exact⟨_,rfl,⟨_,_,_,_,rfl,Kd.C_below HV.out hb',cV,C_nil_ _ _,Nat.zero_le _,(fun ad h h0=>.inl (.inl ⟨h,h0⟩)),(fun ad h=>by cases h)⟩,hb'⟩
 ·replace h:=(if_neg h1).symm.trans h
  have d1:decide (0<(K.length:Int))=false:=decide_eq_false (by omega)
  have d2:decide (0<K.length)=false:=decide_eq_false h1;obtain⟨o,ho,h⟩:=Option.bind_eq_some_iff.1 h;have HO:=ak_ ho;have H:=ak_ h;clear ho h
  go_enter Tryz.func71,Tryz.ntmps71
  go_wp2_with (first
   |((with_reducible refine gate_dst (N:=2) rfl ?_);refine bx_ 2 #[.string l,.string s,.string r,.slice A3 V.length c3,.slice A4 K.length c4] 25 ?_;intro gt hg w1 hbox hb;have BT:=ak_ hbox;have GT:=ak_ ((by rw [hg];exact Nat.le_refl _:w.heap.size≤gt));replace HB:=ak_ (below_step HB.out hb);clear hb hbox hg)
   |((with_reducible refine gate_dst (N:=4) rfl ?_);refine bx_ 4 #[.string ⟨#[]⟩,.string ⟨#[]⟩,.string ⟨#[]⟩,.slice none 0 0,.slice none 0 0] 25 ?_;intro gr hg w2 hbox hb;have BR:=ak_ hbox;have NE:=ak_ ((by rw [hg];exact Nat.ne_of_lt (blk_lt BT.out):gt≠gr));have GR:=ak_ ((by rw [hg];exact below_size HB.out:w.heap.size≤gr));replace BT:=ak_ (blk_below BT.out hb);replace HB:=ak_ (below_step HB.out hb);clear hb hbox hg;obtain⟨hc0,hc1,hc2,hc3,hc4,hf0,hf1,hf2,hf3,hf4⟩:=c5_ BT;obtain⟨rc0,rc1,rc2,rc3,rc4,rf0,rf1,rf2,rf3,rf4⟩:=c5_ BR;have hne:=NE.out;have hne2:=NE.out.symm))
  go_loopg [5] m (fun kq v5 w'=>∃ i:Nat,v5=.int .i64 (i:Int)∧Aside0 (i7_parent.l0 m l s r V K lp kq i=some o)∧Aside0 (i≤lp.length)∧Aside0 (w'.heap[gt]?=some (.cells #[.string l,.string s,.string r,.slice A3 V.length c3,.slice A4 K.length c4] 25 (0,0)))∧Aside0 (w'.heap[gr]?=some (.cells #[.string ⟨#[]⟩,.string ⟨#[]⟩,.string ⟨#[]⟩,.slice none 0 0,.slice none 0 0] 25 (0,0)))∧Aside0 (Below w.heap.size w w'))
  case atStart=>exact ⟨0,rfl,HO,⟨Nat.zero_le _⟩,⟨BT.out⟩,⟨BR.out⟩,⟨HB.out⟩⟩
  case round=>
   clear hc0 hc1 hc2 hc3 hc4 hf0 hf1 hf2 hf3 hf4 rc0 rc1 rc2 rc3 rc4 rf0 rf1 rf2 rf3 rf4;clear HO HB BT BR;obtain⟨i,rfl,HA,HI,BT,BR,HB⟩:=hrel;obtain⟨hc0,hc1,hc2,hc3,hc4,hf0,hf1,hf2,hf3,hf4⟩:=c5_ BT;obtain⟨rc0,rc1,rc2,rc3,rc4,rf0,rf1,rf2,rf3,rf4⟩:=c5_ BR;cases gk with
   |zero=>exact absurd HA.out (by simp [i7_parent.l0])
   | succ k1=>
    have ho:=HA.out;clear HA;unfold i7_parent.l0 at ho;by_cases hi:i<lp.length
    ·obtain ⟨x,hx,ho⟩:=Option.bind_eq_some_iff.1 ((if_pos hi).symm.trans ho)
     have HX:=ak_ hx;clear hx;have e1:decide ((i:Int)<(lp.length:Int))=true:=decide_eq_true (by omega)
     have e2:((i:Int)<(lp.length:Int))=True:=eq_true (by omega)
     have e3:(0≤(i:Int))=True:=eq_true (by omega)
     obtain⟨ad,e45,hx0,hx1⟩:=at_T45 HP.out (i:Int) (by omega) (by omega)
     subst e45;simp only [Int.toNat_natCast] at hx0 hx1;have HX0:=ak_ hx0;have HX1:=ak_ hx1;clear hx0 hx1
     go_upto_region 7 with fail
     have BT1:=ak_ (blk_drew BT.out);refine st_ (S:=fun w'=>S5 gt (.string l) (.string s) (.string r) (.slice A3 V.length c3) (.slice A4 K.length c4) w'∧w'.cell? (ad.add (i*2))=some (.string (rd_T45 lp (i:Int)).f0)) (ds:=[]) 8 i7_parent.tab7 i7_parent.bits7 ⟨s5_ BT1,(HB.out.cell (World.block_lt_of_cell? w _ HX0.out)).trans HX0.out⟩ (fun hHeld HT_ HW_=>?_);have BR1:=ak_ (blk_drew BR.out);have HB1:=ak_ (below_drew1 HB.out);generalize World.drew _=w18 at BT1 BR1 HB1 hHeld ⊢
     iterate 6 (first|refine pu_ HT_ ?_|refine tk_ HT_ HW_ hHeld ?_)
     refine cg_ 6 (bmp 8 7) (some 28) Tryz.func37 #[.agg #[.string l,.string s,.string r,.slice A3 V.length c3,.slice A4 K.length c4]] HT_ ?_;refine(i7_text.calls m l s r A3 c3 V A4 c4 K x _ (Kd.C_below HV.out HB1.out) cV (Kd.C_below HK.out HB1.out) cK HX.out).mono ?_;rintro e w19 ⟨rfl,hb⟩;have BT2:=ak_ (blk_below BT1.out hb);have BR2:=ak_ (blk_below BR1.out hb);have HB2:=ak_ (below_step HB1.out hb);refine⟨_,rfl,⟨s5_ BT2,(HB2.out.cell (World.block_lt_of_cell? w _ HX0.out)).trans HX0.out⟩,fun hHeld=>nm_ ?_⟩;refine pu_ HT_ ?_;refine dg_ HT_ ?_;clear hc0 hc1 hc2 hc3 hc4 hf0 hf1 hf2 hf3 hf4 rc0 rc1 rc2 rc3 rc4 rf0 rf1 rf2 rf3 rf4;clear BT BR HB BT1 BR1 HB1 hb hHeld HT_ HW_;have BT:=BT2;have BR:=BR2;have HB:=HB2;clear BT2 BR2 HB2;obtain⟨hc0,hc1,hc2,hc3,hc4,hf0,hf1,hf2,hf3,hf4⟩:=c5_ BT;obtain⟨rc0,rc1,rc2,rc3,rc4,rf0,rf1,rf2,rf3,rf4⟩:=c5_ BR;by_cases he:(rd_T45 lp (i:Int)).f0.toList=x.toList
     ·obtain ⟨e5,e6⟩:=eq2_ he
      rw [e5];obtain rfl:=Option.some.inj ((if_pos he).symm.trans ho);obtain⟨q,hq,h⟩:=Option.bind_eq_some_iff.1 H.out;have HQ:=ak_ hq;obtain h:=Option.some.inj h;subst h;clear hq ho H;have hxw:=(HB.out.cell (World.block_lt_of_cell? w _ HX1.out)).trans HX1.out
      go_wp2_with (first
       |(go_at_call 70;refine(i7_canonical.calls m (rd_T45 lp (i:Int)).f1 q.1 q.2.1 q.2.2.1 q.2.2.2.1 q.2.2.2.2.1 q.2.2.2.2.2 _ HQ.out).mono ?_;rintro e w4 ⟨v3,v4,rfl,hV3,hV4,hb⟩;have HS3:=ak_ (show w.heap.size≤w19.heap.size∧gr<w19.heap.size from ⟨below_size HB.out,blk_lt BR.out⟩);obtain⟨B3,d3,rfl,_⟩:=id hV3;obtain⟨B4,d4,rfl,_⟩:=id hV4;have HV3:=ak_ hV3;have HV4:=ak_ hV4;replace BR:=ak_ (blk_below BR.out hb);replace HB:=ak_ (below_step HB.out hb);have HL:=ak_ (Below.refl w4.heap.size w4);clear hb hV3 hV4 hxw hc0 hc1 hc2 hc3 hc4 hf0 hf1 hf2 hf3 hf4 rc0 rc1 rc2 rc3 rc4 rf0 rf1 rf2 rf3 rf4)
       |((with_reducible refine gate_dst (N:=6) rfl ?_);refine bx_ 6 #[.string ⟨#[]⟩,.string ⟨#[]⟩,.string ⟨#[]⟩,.slice none 0 0,.slice none 0 0] 25 ?_;intro gp hg w5 hbox hb;have BP:=ak_ hbox;have NP:=ak_ ((by rw [hg];exact Nat.ne_of_lt (Nat.lt_of_lt_of_le (blk_lt BR.out) HL.out.size):gr≠gp));have GP:=ak_ ((by rw [hg];exact HL.out.size:w4.heap.size≤gp));replace BR:=ak_ (blk_below BR.out hb);replace HL:=ak_ (below_step HL.out hb);clear hb hbox hg;obtain⟨rc0,rc1,rc2,rc3,rc4,rf0,rf1,rf2,rf3,rf4⟩:=c5_ BR;obtain⟨pc0,pc1,pc2,pc3,pc4,pf0,pf1,pf2,pf3,pf4⟩:=c5_ BP;have hnp:=NP.out;have hnp2:=NP.out.symm))
      have BR2:TgB (((((w5.setCell ⟨gp,0,none⟩ (.string q.1)).setCell ⟨gp,1,none⟩ (.string q.2.1)).setCell ⟨gp,2,none⟩ (.string q.2.2.1)).setCell ⟨gp,3,none⟩ (.slice B3 q.2.2.2.1.length d3)).setCell ⟨gp,4,none⟩ (.slice B4 q.2.2.2.2.1.length d4)) gr ⟨#[]⟩ ⟨#[]⟩ ⟨#[]⟩ (.slice none 0 0) (.slice none 0 0):=
       blk_far (blk_far (blk_far (blk_far (blk_far BR.out NP.out _) NP.out _) NP.out _) NP.out _) NP.out _
      have HL2:=below_set (below_set (below_set (below_set (below_set HL.out GP.out (j:=0) (v:=.string q.1)) GP.out (j:=1) (v:=.string q.2.1)) GP.out (j:=2) (v:=.string q.2.2.1)) GP.out (j:=3) (v:=.slice B3 q.2.2.2.1.length d3)) GP.out (j:=4) (v:=.slice B4 q.2.2.2.2.1.length d4);have F3:=vf5_ (g:=gr) (u0:=.string q.1) (u1:=.string q.2.1) (u2:=.string q.2.2.1) (u3:=.slice B3 q.2.2.2.1.length d3) (u4:=.slice B4 q.2.2.2.2.1.length d4) (ak_ (Kd.V_below HV3.out HL2)) (fun k hk=>by have:=HS3.out.2;omega) (Gro.refl _)
      have F4:=vf5_ (g:=gr) (u0:=.string q.1) (u1:=.string q.2.1) (u2:=.string q.2.2.1) (u3:=.slice B3 q.2.2.2.1.length d3) (u4:=.slice B4 q.2.2.2.2.1.length d4) (ak_ (Kd.V_below HV4.out HL2)) (fun k hk=>by have:=HS3.out.2;omega) (Gro.refl _)
      have hb':=below_set (below_set (below_set (below_set (below_set (below_step HB.out HL2) GR.out (j:=0) (v:=.string q.1)) GR.out (j:=1) (v:=.string q.2.1)) GR.out (j:=2) (v:=.string q.2.2.1)) GR.out (j:=3) (v:=.slice B3 q.2.2.2.1.length d3)) GR.out (j:=4) (v:=.slice B4 q.2.2.2.2.1.length d4);refine bodyPost_ret (results_cell_row rfl _ _ gr 25 #[.string q.1,.string q.2.1,.string q.2.2.1,.slice B3 q.2.2.2.1.length d3,.slice B4 q.2.2.2.2.1.length d4] (0,0) _ rfl (TgB.put BR2) Tryz.underlying25 rfl (by kernel_rfl)) rfl ?_
      exact⟨_,rfl,⟨B3,d3,B4,d4,rfl,(Kd.V_reads' F3).2.2,(Kd.V_reads' F3).2.1,(Kd.V_reads' F4).2.2,(Kd.V_reads' F4).2.1,(fun ad h h0=>.inr (Nat.le_trans HS3.out.1 (V_ok_ F3 (by decide) h h0).1)),(fun ad h h0=>.inr (Nat.le_trans HS3.out.1 (V_ok_ F4 (by decide) h h0).1))⟩,hb'⟩
     ·obtain ⟨e5,e6⟩:=ne2_ he
      rw [e5];replace ho:=(if_neg he).symm.trans ho;have hw1:IntKind.i64.wrap ((i:Int)+1)=((i+1:Nat):Int):=by have:=HP.out.2.1;simp [IntKind.wrap,IntKind.bits,IntKind.signed];omega
      go_wp2
      go_roundg k1
      case measure=>omega
      case rel=>exact ⟨i+1,by go_num,⟨ho⟩,⟨by omega⟩,⟨BT.out⟩,⟨BR.out⟩,⟨HB.out⟩⟩
    ·have e1:decide ((i:Int)<(lp.length:Int))=false:=decide_eq_false (by omega)
     have e4:decide (i<lp.length)=false:=decide_eq_false hi;obtain rfl:=Option.some.inj ((if_neg hi).symm.trans ho);have h:=H.out;clear H ho;by_cases hv:0<V.length
     ·have f1:decide (0<(V.length:Int))=true:=decide_eq_true (by omega)
      have f2:decide (0<V.length)=true:=decide_eq_true hv;replace h:=(if_pos hv).symm.trans h;by_cases hvl:V.length<8796093022208
      ·have HVL:=ak_ hvl
       obtain h:=Option.some.inj ((if_pos hvl).symm.trans h);subst h;clear hvl;have hw:IntKind.i64.wrap ((V.length:Int) - 1)=((V.length - 1:Nat):Int):=by have:=HV.out.2.1;simp [IntKind.wrap,IntKind.bits,IntKind.signed];omega
       go_wp2_with ((with_reducible refine gate_dst (N:=46) rfl ?_);refine Kd.R_lit Kd.string _ 9 ?hg (N:=46) ?hd (xs:=([]:List ByteArray)) (inner:=[]) (ok:=fun _=>True) (okp:=fun _=>True) ?hr ?hp (fun _ hk=>hk) trivial (Below.refl _ _) (Nat.le_refl _) (by simp) ?_;(case hd=>rfl);(case hg=>rfl);(case hr=>first|(go_simp;done)|(go_simp;rfl));(case hp=>exact (Reps.none _ _));intro v8 w5 hO hb hg_ hnew_;clear hg_ hnew_;have HO:=ak_ (Kd.R_lower hO (below_size HB.out));replace BT:=ak_ (blk_below BT.out hb);replace BR:=ak_ (blk_below BR.out hb);replace HB:=ak_ (below_step HB.out hb);clear hb hO hc0 hc1 hc2 hc3 hc4 hf0 hf1 hf2 hf3 hf4 rc0 rc1 rc2 rc3 rc4 rf0 rf1 rf2 rf3 rf4)
       go_loopg [8,9] V.length (fun kq v8 v9 w'=>∃ j:Nat,v9=.int .i64 (j:Int)∧Aside0 (kq+j=V.length)∧Aside0 (j≤V.length - 1)∧Aside0 (Kd.R Kd.string 9 w' w.heap.size (fun _=>True) v8 (V.take j))∧Aside0 (w'.heap[gt]?=some (.cells #[.string l,.string s,.string r,.slice A3 V.length c3,.slice A4 K.length c4] 25 (0,0)))∧Aside0 (w'.heap[gr]?=some (.cells #[.string ⟨#[]⟩,.string ⟨#[]⟩,.string ⟨#[]⟩,.slice none 0 0,.slice none 0 0] 25 (0,0)))∧Aside0 (Below w.heap.size w w'))
       case atStart=>exact ⟨0,rfl,⟨rfl⟩,⟨Nat.zero_le _⟩,⟨by rw [List.take_zero];exact HO.out⟩,⟨BT.out⟩,⟨BR.out⟩,⟨HB.out⟩⟩
       case round=>
        clear HO HB BT BR;obtain⟨j,rfl,HJ,HJ2,HO,BT,BR,HB⟩:=hrel;obtain⟨Ao,co,rfl⟩:=Kd.R_slice HO.out;obtain⟨hc0,hc1,hc2,hc3,hc4,hf0,hf1,hf2,hf3,hf4⟩:=c5_ BT;obtain⟨rc0,rc1,rc2,rc3,rc4,rf0,rf1,rf2,rf3,rf4⟩:=c5_ BR;by_cases hj:j<V.length - 1
        ·obtain ⟨g1,rfl⟩:∃ g1,gk=g1+1:=⟨V.length - j - 1,by have:=HJ.out;omega⟩
         have q1:decide ((j:Int)<((V.length - 1:Nat):Int))=true:=decide_eq_true (by omega)
         have q2:((j:Int)<(V.length:Int))=True:=eq_true (by omega)
         have q3:(0≤(j:Int))=True:=eq_true (by omega)
         have hw1:IntKind.i64.wrap ((j:Int)+1)=((j+1:Nat):Int):=by have:=HV.out.2.1;simp [IntKind.wrap,IntKind.bits,IntKind.signed];omega
         obtain⟨ad3,e3',hy⟩:=Kd.at_string HV.out (j:Int) (by omega) (by omega)
         subst e3';simp only [Int.toNat_natCast] at hy;replace hy:=hx_ HB.out hy;have ht:V.take j++[rdOf ByteArray.empty V (j:Int)]=V.take (j+1):=by
          rw [List.take_succ_eq_append_getElem (by omega)]
          congr 1
          simp [rdOf,show j<V.length by omega]
         go_wp2_with ((with_reducible refine gate_builtin (b:=.append) (xs:=#[.tmp 55,.tmp 61]) rfl ?_);at_builtin;refine Kd.R_append Kd.string (w0:=w) w.heap.size rfl (.tmp 55) (.tmp 61) 22 9 (.string ⟨#[]⟩) 16 rfl Tryz.underlying22 info9 rfl (by decide) (by omega) (.slice Ao (V.take j).length co) (V.take j) (rdOf ByteArray.empty V (j:Int)) [.string (rdOf ByteArray.empty V (j:Int))] (fun _=>True) (fun _=>False) rfl rfl ?aP (fun _ hk=>hk.elim) ?aF ?aO ?aB ?aS ?aL ?_;(case aP=>exact rfl);(case aB=>exact HB.out);(case aF=>exact (fun _ _=>trivial));(case aO=>exact HO.out);(case aS=>exact below_size HB.out);(case aL=>exact (by rw [List.length_take];have:=HVL.out;omega));intro v9 w6 hO hb hg hat;replace BT:=ak_ (blk_grown BT.out hg (Kd.R_ne HO.out BT.out (by decide)));replace BR:=ak_ (blk_grown BR.out hg (Kd.R_ne HO.out BR.out (by decide)));replace HB:=ak_ hb;replace HO:=ak_ hO;clear hO hb hg hat hc0 hc1 hc2 hc3 hc4 hf0 hf1 hf2 hf3 hf4 rc0 rc1 rc2 rc3 rc4 rf0 rf1 rf2 rf3 rf4)
         rw [ht] at HO
         go_roundg g1
         case measure=>omega
         case rel=>exact ⟨j+1,by go_num,⟨by have:=HJ.out;omega⟩,⟨by omega⟩,⟨HO.out⟩,⟨BT.out⟩,⟨BR.out⟩,⟨HB.out⟩⟩
        ·obtain rfl:j=V.length - 1:=by have:=HJ2.out;omega
         have q1:decide (((V.length - 1:Nat):Int)<((V.length - 1:Nat):Int))=false:=decide_eq_false (by omega)
         have hl:(V.take (V.length - 1)).length=V.length - 1:=by rw [List.length_take];omega
         go_wp2
         have HO2:=HO.out;rw [hl] at HO2;have BR2:TgB (World.setCell _ ⟨gt,3,none⟩ (.slice Ao (V.length - 1) co)) gr ⟨#[]⟩ ⟨#[]⟩ ⟨#[]⟩ (.slice none 0 0) (.slice none 0 0):=blk_far BR.out NE.out.symm _;have R3:=TgB.keepR (l':=l) (s':=s) (r':=r) (V3':=.slice Ao (V.length - 1) co) (V4':=.slice A4 K.length c4) BR2 (Kd.R_set HO2 BT.out (by decide) 3 _) (by decide)
         obtain⟨X3,y3,E3,m3,C3⟩:=Kd.R_reads R3;have hb':=below_set (below_set (below_set (below_set (below_set ((below_set HB.out GT.out (j:=3) (v:=.slice Ao (V.length - 1) co))) GR.out (j:=0) (v:=.string l)) GR.out (j:=1) (v:=.string s)) GR.out (j:=2) (v:=.string r)) GR.out (j:=3) (v:=.slice Ao (V.length - 1) co)) GR.out (j:=4) (v:=.slice A4 K.length c4);refine bodyPost_ret (results_cell_row rfl _ _ gr 25 #[.string l,.string s,.string r,.slice Ao (V.length - 1) co,.slice A4 K.length c4] (0,0) _ rfl (TgB.put BR2) Tryz.underlying25 rfl (by kernel_rfl)) rfl ?_
         exact⟨_,rfl,⟨X3,y3,A4,c4,by rw [E3],C3,m3,Kd.C_below HK.out hb',cK,(fun ad h _=>.inr (R_base_ R3 (by rw [E3,h]))),(fun ad h h0=>.inl (.inr ⟨h,h0⟩))⟩,hb'⟩
      ·cases (if_neg hvl).symm.trans h
     ·have f1:decide (0<(V.length:Int))=false:=decide_eq_false (by omega)
      have f2:decide (0<V.length)=false:=decide_eq_false hv;replace h:=(if_neg hv).symm.trans h;by_cases hr:r.toList=([]:List UInt8)
      ·obtain ⟨f3,f4,f5⟩:=eq3_ hr
       replace h:=(if_pos hr).symm.trans h;by_cases hs:s.toList=([]:List UInt8)
       ·obtain ⟨f6,f7,f8⟩:=eq3_ hs
        obtain h:=Option.some.inj ((if_pos hs).symm.trans h);subst h;clear hv hr hs
        go_wp2
        refine bodyPost_ret (results_cell_row rfl _ _ gr 25 #[.string ⟨#[]⟩,.string s,.string r,.slice A3 V.length c3,.slice A4 K.length c4] (0,0) _ rfl (TgB.put (blk_far BR.out NE.out.symm _)) Tryz.underlying25 rfl (by kernel_rfl)) rfl ?_
        have hb':=below_set (below_set (below_set (below_set (below_set ((below_set HB.out GT.out (j:=0) (v:=.string ⟨#[]⟩))) GR.out (j:=0) (v:=.string ⟨#[]⟩)) GR.out (j:=1) (v:=.string s)) GR.out (j:=2) (v:=.string r)) GR.out (j:=3) (v:=.slice A3 V.length c3)) GR.out (j:=4) (v:=.slice A4 K.length c4);exact⟨_,rfl,⟨_,_,_,_,rfl,Kd.C_below HV.out hb',cV,Kd.C_below HK.out hb',cK,(fun ad h h0=>.inl (.inl ⟨h,h0⟩)),(fun ad h h0=>.inl (.inr ⟨h,h0⟩))⟩,hb'⟩
       ·obtain ⟨f6,f7,f8⟩:=ne3_ hs
        obtain h:=Option.some.inj ((if_neg hs).symm.trans h);subst h;clear hv hr hs
        go_wp2
        refine bodyPost_ret (results_cell_row rfl _ _ gr 25 #[.string l,.string ⟨#[]⟩,.string r,.slice A3 V.length c3,.slice A4 K.length c4] (0,0) _ rfl (TgB.put (blk_far BR.out NE.out.symm _)) Tryz.underlying25 rfl (by kernel_rfl)) rfl ?_
        have hb':=below_set (below_set (below_set (below_set (below_set ((below_set HB.out GT.out (j:=1) (v:=.string ⟨#[]⟩))) GR.out (j:=0) (v:=.string l)) GR.out (j:=1) (v:=.string ⟨#[]⟩)) GR.out (j:=2) (v:=.string r)) GR.out (j:=3) (v:=.slice A3 V.length c3)) GR.out (j:=4) (v:=.slice A4 K.length c4);exact⟨_,rfl,⟨_,_,_,_,rfl,Kd.C_below HV.out hb',cV,Kd.C_below HK.out hb',cK,(fun ad h h0=>.inl (.inl ⟨h,h0⟩)),(fun ad h h0=>.inl (.inr ⟨h,h0⟩))⟩,hb'⟩
      ·obtain ⟨f3,f4,f5⟩:=ne3_ hr
       obtain h:=Option.some.inj ((if_neg hr).symm.trans h);subst h;clear hv hr
       go_wp2
       refine bodyPost_ret (results_cell_row rfl _ _ gr 25 #[.string l,.string s,.string ⟨#[]⟩,.slice A3 V.length c3,.slice A4 K.length c4] (0,0) _ rfl (TgB.put (blk_far BR.out NE.out.symm _)) Tryz.underlying25 rfl (by kernel_rfl)) rfl ?_
       have hb':=below_set (below_set (below_set (below_set (below_set ((below_set HB.out GT.out (j:=2) (v:=.string ⟨#[]⟩))) GR.out (j:=0) (v:=.string l)) GR.out (j:=1) (v:=.string s)) GR.out (j:=2) (v:=.string ⟨#[]⟩)) GR.out (j:=3) (v:=.slice A3 V.length c3)) GR.out (j:=4) (v:=.slice A4 K.length c4);exact⟨_,rfl,⟨_,_,_,_,rfl,Kd.C_below HV.out hb',cV,Kd.C_below HK.out hb',cK,(fun ad h h0=>.inl (.inl ⟨h,h0⟩)),(fun ad h h0=>.inl (.inr ⟨h,h0⟩))⟩,hb'⟩
end Go.Proofs.YtphjhbppjakocaaGreatDoor.PTag
