/- Several texts of this claim in one: Cn1, Cn2, Cn3, Cn4, Cn5, Cn6; conditions: those that each theorem states. -/
import Derived.Test.YtphjhbppjakocaaGreatDoorPrc
import Derived.Test.YtphjhbppjakocaaGreatDoorPU16
import Derived.Test.YtphjhbppjakocaaGreatDoorQPairs
import Derived.Test.YtphjhbppjakocaaGreatDoorQRchain
import Derived.Test.YtphjhbppjakocaaGreatDoorPU22
set_option linter.unusedVariables false
set_option linter.unusedSimpArgs false
namespace Go.Proofs.YtphjhbppjakocaaGreatDoor.Pl
open Go.RowKit Go.Proofs.YtphjhbppjakocaaGreatDoorW.PrintWords Go.Proofs.YtphjhbppjakocaaGreatDoor.PTag
set_option maxRecDepth 100000 in
theorem upB_cls (c:UInt8):upB (upB c)=upB c∧isL (upB c)=isL c∧isD (upB c)=isD c:=
 all_u8 (p:=fun c=>upB (upB c)=upB c∧isL (upB c)=isL c∧isD (upB c)=isD c) (by decide +kernel) c
theorem all_upp (l:Bs) (p:UInt8→Bool) (h:∀ c,p (upB c)=p c):(l.map upB).all p=l.all p:=by
 induction l with
 |nil=>rfl
 |cons c l ih=>simp only [List.map_cons,List.all_cons,h,ih]
theorem regn_upp (s:ByteArray):regn (L (upp s))=regn (L s):=by
 unfold regn lets nums;rw [L_upp,all_upp _ _ (fun c=>(upB_cls c).2.1),all_upp _ _ (fun c=>(upB_cls c).2.2),List.length_map]
theorem upp_upp (s:ByteArray):upp (upp s)=upp s:=by
 apply L_inj;rw [L_upp,L_upp,List.map_map];congr 1;funext c;exact(upB_cls c).1
theorem L_titl {s:ByteArray} {c:UInt8} {r:Bs} (h:L s=c :: r):L (titl s)=upB c :: r.map lowB:=by
 have hs:s.size=r.length+1:=by rw [← L_len,h];rfl
 unfold titl;rw [L_app,L_upp,L_low,L_ext,L_ext,h,hs];simp
theorem ok_lang {x:ByteArray} (h:lets (L x) 2 3=true):langOk (keptLang (low x))=true:=by
 unfold keptLang;by_cases h1:(low x).toList=[117,110,100]
 ·rw [if_pos h1];rfl
 ·rw [if_neg h1]
  unfold langOk;rw [lets_low,h,low_low];rw [toList_L] at h1;simp [h1]
theorem ok_scr {x:ByteArray} (h:lets (L x) 4 4=true):scrOk (titl x)=true:=by
 cases hx:L x with
 |nil=>rw [hx] at h;cases h
 | cons c r=>
  have e:=L_titl hx;have e2:titl (titl x)=titl x:=by
   apply L_inj;rw [L_titl e,e,(upB_cls c).1,List.map_map]
   congr 1;apply List.map_congr_left;intro a _;exact(lowB_cls a).1
  have e3:lets (L (titl x)) 4 4=true:=by
   rw [hx] at h;rw [e];unfold lets at h ⊢;simp only [List.all_cons,List.length_cons,List.length_map] at h ⊢;rw [(upB_cls c).2.1,all_low _ _ (fun c=>(lowB_cls c).2.2.1)];exact h
  unfold scrOk;rw [e2,e3];simp
theorem ok_reg {x:ByteArray} (h:regn (L x)=true):regOk (upp x)=true:=by
 unfold regOk;rw [regn_upp,h,upp_upp];simp
theorem headRP_ok (ps:List Pc) (l s:ByteArray):(headRP ps l s).2.2.1=l∧(headRP ps l s).2.2.2.1=s∧regOk (headRP ps l s).2.2.2.2=true:=by
 unfold headRP;by_cases h:regn (L (nowT ps))=true
 ·rw [if_pos h];exact⟨rfl,rfl,ok_reg h⟩
 ·rw [if_neg h];exact⟨rfl,rfl,rfl⟩
theorem headP_ok (ps:List Pc):langOk (headP ps).2.2.1=true∧scrOk (headP ps).2.2.2.1=true∧regOk (headP ps).2.2.2.2=true:=by
 unfold headP;by_cases h:lets (L (nowT ps)) 2 3=true
 ·rw [if_pos h]
  unfold headSP;by_cases h2:lets (L (nowT ps.tail)) 4 4=true
  ·rw [if_pos h2]
   obtain⟨a,b,c⟩:=headRP_ok ps.tail.tail (keptLang (low (nowT ps))) (titl (nowT ps.tail));rw [a,b];exact⟨ok_lang h,ok_scr h2,c⟩
  ·rw [if_neg h2]
   obtain⟨a,b,c⟩:=headRP_ok ps.tail (keptLang (low (nowT ps))) E;rw [a,b];exact⟨ok_lang h,rfl,c⟩
 ·rw [if_neg h];exact⟨rfl,rfl,rfl⟩
def VOk (vs:List ByteArray):Prop:=(∀ v ∈ vs,vart (L v)=true∧low v=v)∧vs.Nodup
theorem varsP_ok:∀ (ps:List Pc) (vs:List ByteArray),VOk vs→VOk (varsP ps vs).2.2
 |[],vs,h=>h
 | p :: ps,vs,h=>by
  simp only [varsP];split
  ·rename_i h1
   split
   ·exact h
   ·rename_i h2
    split
    ·exact h
    ·refine varsP_ok ps _ ⟨fun v hv=>?_,?_⟩
     ·rcases List.mem_append.1 hv with hv|hv
      ·exact h.1 v hv
      ·obtain rfl:=List.mem_singleton.1 hv
       rw [vart_low,low_low];exact⟨h1,rfl⟩
     ·refine List.nodup_append.2 ⟨h.2,by simp,fun a ha b hb e=>?_⟩
      obtain rfl:=List.mem_singleton.1 hb;subst e;exact h2 ((Lib.containsS_iff ..).2 ha)
  ·exact h
theorem vc_of:∀ (V:List ByteArray) (pr:Option ByteArray),(∀ v ∈ V,vart (L v)=true∧low v=v)→(∀ p,pr=some p→∀ v ∈ V,L p<L v)→(V.Pairwise fun a b=>L a<L b)→vcP pr V=0
 |[],_,_,_,_=>rfl
 | v :: vs,pr,h,hp,hw=>by
  obtain⟨h1,h2⟩:=h v (by simp)
  obtain⟨w1,w2⟩:=List.pairwise_cons.1 hw;have h3:rise pr v=0:=by
   cases pr with
   |none=>rfl
   |some p=>
    have hl:=hp p rfl v (by simp)
    rw [rise_some,toList_L,toList_L,if_neg (fun e=>by rw [e] at hl;exact absurd hl (List.lt_irrefl _)),if_neg]
    rw [bless_,decide_eq_true_eq];exact fun e=>absurd (List.lt_trans e hl) (List.lt_irrefl _)
  unfold vcP;rw [if_pos h1,if_pos h2,if_pos h3];exact vc_of vs (some v) (fun x hx=>h x (List.mem_cons_of_mem _ hx)) (fun p e x hx=>by cases e;exact w1 x hx) w2
theorem vc_sort {vs:List ByteArray} (h:VOk vs):vcP none (sortTexts vs)=0:=by
 rw [← isrt_texts];have hm:=isrt_mem ltT vs;have hn:(isrt ltT vs).Nodup:=(isrt_perm ltT vs).nodup_iff.2 h.2;refine vc_of _ none (fun v hv=>h.1 v ((hm v).1 hv)) (fun p e=>by cases e) ?_
 refine List.Pairwise.imp₂ (R:=fun a b=>ltT b a=false) (S:=fun a b=>a≠b) ?_ (isrt_asc swoT vs) hn;intro a b h1 h2;simp only [ltT_eq,decide_eq_false_iff_not] at h1;by_cases h3:L a<L b
 ·exact h3
 ·exact absurd (L_inj (List.le_antisymm (List.not_lt.1 h1) (List.not_lt.1 h3))) h2
theorem vart_8 {v:ByteArray} (h:vart (L v)=true):v.size≤8:=by
 rw [← L_len];unfold vart at h;rcases(Bool.or_eq_true_iff.1 h) with h|h
 ·exact (sgns_pos h).2
 ·have:=(sgns_pos (Bool.and_eq_true_iff.1 h).1).2;omega
theorem joinN_len (n:Nat):∀ (v:List ByteArray),(∀ x ∈ v,x.size≤n)→(Lib.join (v.map L) [45]).length≤v.length*(n+1)
 |[],_=>by simp [Lib.join]
 |[a],h=>by
  have:=h a (by simp)
  simp [Lib.join];omega
 | a :: b :: r,h=>by
  have ih:=joinN_len n (b :: r) (fun x hx=>h x (List.mem_cons_of_mem _ hx));have ha:=h a (by simp)
  have:Lib.join ((a :: b :: r).map L) [45]=L a++[45]++Lib.join ((b :: r).map L) [45]:=by
   simp [Lib.join,List.intercalate]
  rw [this,List.length_append,List.length_append,L_len];have e:(a :: b :: r).length*(n+1)=(b :: r).length*(n+1)+(n+1):=by rw [List.length_cons,Nat.succ_mul]
  rw [e];simp only [List.length_cons,List.length_nil] at ih ⊢;omega
theorem valsP_8:∀ (ps:List Pc) (v:List ByteArray),(∀ x ∈ v,x.size≤8)→(∀ x ∈ (valsP ps v).2,x.size≤8)∧(valsP ps v).2.length+(valsP ps v).1.length≤v.length+ps.length
 |[],v,h=>⟨h,Nat.le_refl _⟩
 | p :: ps,v,h=>by
  simp only [valsP];split
  ·rename_i h1
   obtain⟨a,b⟩:=valsP_8 ps (v++[low p.f0]) (fun x hx=>by
    rcases List.mem_append.1 hx with hx|hx
    ·exact h x hx
    ·obtain rfl:=List.mem_singleton.1 hx
     rw [low_size,← L_len];exact(sgns_pos h1).2)
   refine⟨a,?_⟩;simp only [List.length_append,List.length_cons,List.length_nil] at b ⊢;omega
  ·exact ⟨h,by simp⟩
def KS (ks:List Ky):Prop:=∀ x ∈ ks,x.f0.size≤2∧x.f1.size≤600000
theorem keysP_ks:∀ (n:Nat) (ps:List Pc) (ks:List Ky),ps.length≤65537→KS ks→KS (keysP n ps ks).2.2
 |0,ps,ks,_,h=>h
 |_+1,[],ks,_,h=>h
 | n + 1,p :: ps,ks,hl,h=>by
  simp only [keysP];split
  ·rename_i h1
   split
   ·exact h
   ·split
    ·exact h
    ·have hv:=valsP_8 ps [] (fun x hx=>by cases hx)
     simp only [List.length_nil,List.length_cons] at hv hl;refine keysP_ks n _ _ (by omega) (fun x hx=>?_)
     rcases List.mem_append.1 hx with hx|hx
     ·exact h x hx
     ·obtain rfl:=List.mem_singleton.1 hx
      refine⟨by show(low p.f0).size≤2;rw [low_size,← L_len];exact(sgns_pos h1).2,?_⟩
      show(keptVal _).size≤600000;unfold keptVal;split
      ·exact Nat.zero_le _
      ·unfold joinD
       rw [S_size];have:=joinN_len 8 _ hv.1;omega
  ·exact h
structure TOk (t:Tg):Prop where
 l:langOk t.1=true
 s:scrOk t.2.1=true
 r:regOk t.2.2.1=true
 nV:t.2.2.2.1.length≤64
 V:vcP none t.2.2.2.1=0
 nK:t.2.2.2.2.length≤64
 K:KS t.2.2.2.2
theorem TOk.none:TOk (E,E,E,[],[]):=⟨rfl,rfl,rfl,Nat.zero_le _,rfl,Nat.zero_le _,fun _ h=>by cases h⟩
theorem readP_ok (ps:List Pc) (en:Int) (hl:ps.length≤65537) (hs:Sm ps):∀ t,(readP ps en).2.2=some t→langOk t.1=true∧scrOk t.2.1=true∧regOk t.2.2.1=true∧VOk t.2.2.2.1∧KS t.2.2.2.2:=by
 intro t ht;have hh:=headP_ok ps;have hm:=headP_sm ps hs;have hv:=varsP_ok (headP ps).2.1 [] ⟨fun _ h=>(by cases h),List.nodup_nil⟩
 have hw:=varsP_sm (headP ps).2.1 [] hm.1;unfold readP at ht;by_cases hb:(headP ps).1=true
 ·rw [if_pos hb] at ht
  by_cases h0:(varsP (headP ps).2.1 []).1=0
  ·rw [if_pos h0] at ht
   unfold readUP at ht;split at ht
   ·obtain rfl:=Option.some.inj ht
    exact⟨hh.1,hh.2.1,hh.2.2,hv,fun _ h=>by cases h⟩
   ·rename_i p pt e
    by_cases hu:(low p.f0).toList=[117]
    ·rw [if_pos hu] at ht
     by_cases h1:(keysP (pt.length+1) pt []).1=0
     ·rw [if_pos h1] at ht
      by_cases h2:(keysP (pt.length+1) pt []).2.2.length=0
      ·rw [if_pos h2] at ht;cases ht
      ·rw [if_neg h2] at ht
       unfold readEnd at ht;split at ht
       ·obtain rfl:=Option.some.inj ht
        refine⟨hh.1,hh.2.1,hh.2.2,hv,keysP_ks _ _ _ ?_ (fun _ h=>by cases h)⟩
        have:=hw.2;rw [e] at this;simp only [List.length_cons] at this;omega
       ·cases ht
     ·rw [if_neg h1] at ht;cases ht
    ·rw [if_neg hu] at ht;cases ht
  ·rw [if_neg h0] at ht;cases ht
 ·rw [if_neg hb] at ht;cases ht
def tgP (a:ByteArray):Tg:=((parseP a).1,(parseP a).2.1,(parseP a).2.2.1,(parseP a).2.2.2.1,(parseP a).2.2.2.2.1)
theorem sortKeys_ks {ks:List Ky} (h:KS ks):KS (sortKeys ks):=fun x hx=>h x ((sortKeys_perm ks).mem_iff.1 hx)
theorem tgP_ok (a:ByteArray):TOk (tgP a):=by
 have hn:=parseP_len a;refine⟨?_,?_,?_,hn.1,?_,hn.2,?_⟩
 all_goals
  show _;unfold tgP;unfold parseP;by_cases h1:a.size>65536
  ·simp only [if_pos h1];first|rfl|exact fun _ h=>by cases h
  ·simp only [if_neg h1]
   by_cases h2:(low a).toList=[114,111,111,116]
   ·simp only [if_pos h2];first|rfl|exact fun _ h=>by cases h
   ·simp only [if_neg h2]
    have hp:=pieces_sm a (by omega)
    have hr:=readP_ok (pieces a) (a.size:Int) hp.2 hp.1;unfold parseRes;split
    ·first|rfl|exact fun _ h=>by cases h
    ·rename_i t ht
     obtain⟨r1,r2,r3,r4,r5⟩:=hr t ht
     first|exact r1|exact r2|exact r3|exact vc_sort r4|exact sortKeys_ks r5
theorem TOk.sz {t:Tg} (h:TOk t):SzT t:=by
 refine⟨?_,?_,?_,by have:=h.nV;omega,by have:=h.nK;omega,fun v hv=>?_,fun x hx=>?_⟩
 ·rw [← L_len]
  have:=h.l;unfold langOk at this;rcases(Bool.or_eq_true_iff.1 this) with e|e
  ·rw [of_decide_eq_true e];exact Nat.zero_le _
  ·have:=(lets_pos (Bool.and_eq_true_iff.1 e).1).2;omega
 ·rw [← L_len]
  have:=h.s;unfold scrOk at this;rcases(Bool.or_eq_true_iff.1 this) with e|e
  ·rw [of_decide_eq_true e];exact Nat.zero_le _
  ·have:=(lets_pos (Bool.and_eq_true_iff.1 e).1).2;omega
 ·rw [← L_len]
  have:=h.r;unfold regOk at this;rcases(Bool.or_eq_true_iff.1 this) with e|e
  ·rw [of_decide_eq_true e];exact Nat.zero_le _
  ·have:=regn_len (Bool.and_eq_true_iff.1 e).1;omega
 ·have:=vart_8 ((vc_facts _ _ h.V).1 v hv).1;omega
 ·have:=h.K x hx;omega
theorem TOk.chk {t:Tg} (h:TOk t) (hk:t.2.2.2.2=[]):chkT t=0:=by
 unfold chkT;rw [hk];exact(chk_iff _ _ _ _ _).2 ⟨h.l,h.s,h.r,h.nV,h.V,Nat.zero_le _,rfl⟩
def Ev2 {α:Type} (f:Nat→Nat→Option α) (r:α):Prop:=∃ K,∀ m k,K≤m→K≤k→f m k=some r
theorem Ev2.now {α:Type} (r:α):Ev2 (fun _ _=>some r) r:=⟨0,fun _ _ _ _=>rfl⟩
theorem Ev2.bind0 {α β:Type} {f:Nat→Option α} {g:Nat→Nat→α→Option β} {a:α} {r:β} (h:Ev f a) (k:Ev2 (fun m k=>g m k a) r):Ev2 (fun m k=>(f m).bind (g m k)) r:=by
 obtain⟨K,hK⟩:=h;obtain⟨M,hM⟩:=k;refine⟨K+M,fun m k hm hk=>?_⟩;show(f m).bind (g m k)=some r;rw [hK m (by omega)]
 exact hM m k (by omega) (by omega)
theorem Ev2.congr {α:Type} {f g:Nat→Nat→Option α} {r:α} (h:∀ m k,f m k=g m k) (k:Ev2 g r):Ev2 f r:=by
 obtain⟨K,hK⟩:=k;exact⟨K,fun m k hm hk=>by rw [h];exact hK m k hm hk⟩
theorem Ev2.nowc {α:Type} {f:Nat→Nat→Option α} {r:α} (h:∀ m k,f m k=some r):Ev2 f r:=⟨0,fun m k _ _=>h m k⟩
theorem Ev2.step {α:Type} {f g:Nat→Nat→Option α} {r:α} (h:∀ m k,f m (k+1)=g m k) (k:Ev2 g r):Ev2 f r:=by
 obtain⟨K,hK⟩:=k;refine⟨K+1,fun m k hm hk=>?_⟩;obtain⟨q,rfl⟩:∃ q,k=q+1:=⟨k - 1,by omega⟩
 rw [h];exact hK m q (by omega) (by omega)
theorem Ev2.diag {α:Type} {f:Nat→Nat→Option α} {r:α} (h:Ev2 f r):Ev (fun k=>f k k) r:=by
 obtain⟨K,hK⟩:=h;exact⟨K,fun k hk=>hK k k hk hk⟩
def ownP (a:ByteArray):Bool:=decide ((parseP a).2.2.2.2.2.2=0∧(tgP a).2.2.2.2=[]∧txtT (tgP a)=a)
def bareP (a:ByteArray):ByteArray×ByteArray×ByteArray×List ByteArray×List Ky×Bool:=((tgP a).1,(tgP a).2.1,(tgP a).2.2.1,(tgP a).2.2.2.1,(tgP a).2.2.2.2,ownP a)
theorem TOk.text {t:Tg} (h:TOk t):Ev (fun k=>tag_text.f k t.1 t.2.1 t.2.2.1 t.2.2.2.1 t.2.2.2.2) (txtT t):=text_f h.sz h.nV h.nK
theorem TOk.rtext {t:Tg} (h:TOk t):Ev (fun k=>i7_text.f k t.1 t.2.1 t.2.2.1 t.2.2.2.1 t.2.2.2.2) (txtT t):=rtext_f h.sz h.nK h.nV
theorem beq_L (x y:ByteArray):(x.toList==y.toList)=decide (x=y):=by
 by_cases h:x=y
 ·subst h;simp
 ·rw [decide_eq_false h]
  exact beq_eq_false_iff_ne.2 (fun e=>h ((eq_iffL _ _).1 e))
theorem bare_f (a:ByteArray):Ev (fun k=>tag_bare.f k a) (bareP a):=by
 unfold tag_bare.f bareP;refine Ev.bind (parse_f a) ?_;have ht:=(tgP_ok a).text;by_cases h0:(parseP a).2.2.2.2.2.2=0
 ·simp only [if_pos h0]
  by_cases hk:(parseP a).2.2.2.2.1=[]
  ·have e:(((parseP a).2.2.2.2.1.length:Nat):Int)=0:=by rw [hk];rfl
   simp only [if_pos e];refine Ev.bind ht ?_;rw [beq_L];have e2:ownP a=decide (txtT (tgP a)=a):=by
    unfold ownP;rw [dec_and h0,dec_and (show(tgP a).2.2.2.2=[] from hk)]
   rw [e2];exact Ev.now _
  ·have e:¬ (((parseP a).2.2.2.2.1.length:Nat):Int)=0:=fun h=>hk (List.eq_nil_of_length_eq_zero (by omega))
   simp only [if_neg e];have e2:ownP a=false:=dec_no (fun h=>hk h.2.1);rw [e2];exact Ev.now _
 ·simp only [if_neg h0]
  have e2:ownP a=false:=dec_no (fun h=>h0 h.1);rw [e2];exact Ev.now _
theorem canon_f (a:ByteArray):Ev (fun k=>i7_canonical.f k a) (bareP a):=by
 unfold i7_canonical.f bareP;refine Ev.bind (rparse_f a) ?_;have ht:=(tgP_ok a).rtext;by_cases h0:(parseP a).2.2.2.2.2.2=0
 ·simp only [if_pos h0]
  refine Ev.bind ht ?_;simp only [eq_iffL];by_cases hx:txtT (tgP a)=a
  ·simp only [if_pos hx]
   have e2:ownP a=((((parseP a).2.2.2.2.1.length:Nat):Int)==0):=by
    unfold ownP;rw [dec_and h0];by_cases hk:(tgP a).2.2.2.2=[]
    ·rw [dec_and hk,decide_eq_true hx]
     have:(parseP a).2.2.2.2.1=[]:=hk;rw [this];rfl
    ·rw [dec_no (fun h=>hk h.1)]
     refine(beq_eq_false_iff_ne.2 (fun h=>hk ?_)).symm;exact List.eq_nil_of_length_eq_zero (by show(parseP a).2.2.2.2.1.length=0;omega)
   rw [e2];exact Ev.now _
  ·simp only [if_neg hx]
   have e2:ownP a=false:=dec_no (fun h=>hx h.2.2);rw [e2];exact Ev.now _
 ·simp only [if_neg h0]
  have e2:ownP a=false:=dec_no (fun h=>h0 h.1);rw [e2];exact Ev.now _
theorem own_small {a:ByteArray} (h:ownP a=true):a.size≤65536:=by
 have h0:=(of_decide_eq_true h).1;unfold parseP at h0;by_cases h1:a.size>65536
 ·rw [if_pos h1] at h0;exact absurd h0 (by decide)
 ·omega
theorem own_chk {a:ByteArray} (h:ownP a=true):chkT (tgP a)=0:=(tgP_ok a).chk (of_decide_eq_true h).2.1
theorem own_txt {a:ByteArray} (h:ownP a=true):txtT (tgP a)=a:=(of_decide_eq_true h).2.2
abbrev Pr:=S45
abbrev prA (lp:List Pr) (i:Nat):Pr:=rd_T45 lp (i:Int)
def pairsP (lp:List Pr):Nat→Nat→Int
 |0,_=>0
 |d+1,i=>if ownP (prA lp i).f0=true then(if ownP (prA lp i).f1=true then(if (prA lp i).f0=UND then 70 else if twice_ lp i=true then 6 else pairsP lp d (i+1)) else 70) else 70
theorem pairs_l (lp:List Pr):∀ (d i:Nat),lp.length - i=d→Ev2 (fun m k=>i7_pairs.l0 m lp k i) (pairsP lp d i):=by
 intro d;induction d with
 |zero=>
  intro i hd;refine Ev2.step (g:=fun _ _=>some 0) (fun m k=>?_) (Ev2.now _);simp only [i7_pairs.l0];rw [if_neg (by omega)]
 | succ d ih=>
  intro i hd;refine Ev2.step (fun m k=>?_) (g:=fun m k=>(i7_canonical.f m (prA lp i).f0).bind fun c=>(i7_canonical.f m (prA lp i).f1).bind fun p=>
   if c.2.2.2.2.2=true then(if p.2.2.2.2.2=true then(i7_Root.f m c.1 c.2.1 c.2.2.1 c.2.2.2.1 c.2.2.2.2.1).bind fun t=>if t=true then some 70 else if twice_ lp i=true then some 6 else i7_pairs.l0 m lp k (i+1) else some 70) else some 70) ?_
  ·simp only [i7_pairs.l0]
   rw [if_pos (by omega)]
  ·refine Ev2.bind0 (canon_f _) (Ev2.bind0 (canon_f _) ?_)
   unfold pairsP;by_cases h1:ownP (prA lp i).f0=true
   ·refine Ev2.congr (fun m k=>if_pos h1) ?_
    rw [if_pos h1];by_cases h2:ownP (prA lp i).f1=true
    ·refine Ev2.congr (fun m k=>if_pos h2) ?_
     rw [if_pos h2];have hr:Ev (fun k=>i7_Root.f k (tgP (prA lp i).f0).1 (tgP (prA lp i).f0).2.1 (tgP (prA lp i).f0).2.2.1 (tgP (prA lp i).f0).2.2.2.1 (tgP (prA lp i).f0).2.2.2.2) (decide ((prA lp i).f0=UND)):=by
      unfold i7_Root.f;refine Ev.bind (tgP_ok _).rtext ?_;have e:=beq_L (txtT (tgP (prA lp i).f0)) UND;rw [own_txt h1] at e ⊢;rw [← e,toList_L UND];exact Ev.now _
     refine Ev2.bind0 hr ?_;by_cases h3:(prA lp i).f0=UND
     ·rw [if_pos h3]
      exact Ev2.nowc (fun m k=>if_pos (decide_eq_true h3))
     ·rw [if_neg h3]
      refine Ev2.congr (fun m k=>if_neg (by rw [decide_eq_false h3];decide)) ?_
      by_cases h4:twice_ lp i=true
      ·rw [if_pos h4];exact Ev2.nowc (fun m k=>if_pos h4)
      ·rw [if_neg h4];exact Ev2.congr (fun m k=>if_neg h4) (ih (i+1) (by omega))
    ·rw [if_neg h2];exact Ev2.nowc (fun m k=>if_neg h2)
   ·rw [if_neg h1];exact Ev2.nowc (fun m k=>if_neg h1)
theorem pairs_f (lp:List Pr):Ev (fun k=>i7_pairs.f k lp) (if 256<lp.length then 5 else pairsP lp lp.length 0):=by
 unfold i7_pairs.f;by_cases h:256<lp.length
 ·simp only [if_pos h];exact Ev.now _
 ·simp only [if_neg h];exact(pairs_l lp lp.length 0 (by omega)).diag
def fst0 (lp:List Pr) (n:Nat) (q:ByteArray):Option Int:=Option.map (fun i:Nat=>(i:Int)) ((lp.take n).findIdx? fun p=>decide (p.f0=q))
theorem prA_at {lp:List Pr} {i:Nat} (h:i<lp.length):lp[i]?=some (prA lp i):=by
 unfold prA rd_T45;simp [h]
theorem take_next {lp:List Pr} {i:Nat} (h:i<lp.length):lp.take (i+1)=lp.take i++[prA lp i]:=by
 rw [List.take_add_one,prA_at h];rfl
theorem fst0_none {lp:List Pr} {n:Nat} {q:ByteArray}:fst0 lp n q=none↔∀ p ∈ lp.take n,p.f0≠q:=by
 unfold fst0;rw [Option.map_eq_none_iff,List.findIdx?_eq_none_iff];simp
theorem twice_iff {lp:List Pr} {i:Nat}:twice_ lp i=false↔fst0 lp i (prA lp i).f0=none:=by
 rw [fst0_none];unfold twice_;rw [List.any_eq_false];simp only [beq_L,decide_eq_true_eq]
theorem fst0_next {lp:List Pr} {i:Nat} (h:i<lp.length) (h0:fst0 lp i (prA lp i).f0=none):fst0 lp (i+1)=fun q=>if q=(prA lp i).f0 then some (i:Int) else fst0 lp i q:=by
 funext q
 have hl:(lp.take i).length=i:=by rw [List.length_take];omega
 unfold fst0;rw [take_next h,List.findIdx?_append];by_cases hq:q=(prA lp i).f0
 ·rw [if_pos hq]
  have h1:=h0;rw [fst0_none] at h1;have h2:(lp.take i).findIdx? (fun p=>decide (p.f0=q))=none:=by
   rw [List.findIdx?_eq_none_iff];intro p hp;rw [hq];exact decide_eq_false (h1 p hp)
  rw [h2,hl];have h3:[prA lp i].findIdx? (fun p=>decide (p.f0=q))=some 0:=by
   rw [List.findIdx?_cons,decide_eq_true hq.symm];rfl
  rw [h3];simp
 ·rw [if_neg hq]
  have h3:[prA lp i].findIdx? (fun p=>decide (p.f0=q))=none:=by
   rw [List.findIdx?_cons,decide_eq_false (fun e=>hq e.symm)];rfl
  rw [h3];simp
theorem fst0_zero (lp:List Pr):fst0 lp 0=fun _=>none:=by
 funext q;rw [fst0_none];intro p hp;simp at hp
theorem places_l (lp:List Pr):∀ (d i:Nat),lp.length - i=d→i≤lp.length→∃ g,Ev2 (fun m k=>tag_places.l0 m lp k i (fst0 lp i)) (pairsP lp d i,g)∧(pairsP lp d i=0→g=fst0 lp lp.length):=by
 intro d;induction d with
 |zero=>
  intro i hd hi;obtain rfl:i=lp.length:=by omega
  refine⟨_,Ev2.step (g:=fun _ _=>some (0,fst0 lp lp.length)) (fun m k=>?_) (Ev2.now _),fun _=>rfl⟩;simp only [tag_places.l0];rw [if_neg (by omega)]
 | succ d ih=>
  intro i hd hi;have hlt:i<lp.length:=by omega
  obtain⟨g1,hg1,hz⟩:=ih (i+1) (by omega) (by omega)
  have key:∀ g,Ev2 (fun m k=>(tag_bare.f m (prA lp i).f0).bind fun c=>(tag_bare.f m (prA lp i).f1).bind fun p=>
   if c.2.2.2.2.2=true then(if p.2.2.2.2.2=true then(tag_text.f m c.1 c.2.1 c.2.2.1 c.2.2.2.1 c.2.2.2.2.1).bind fun t=>if t.toList=([117,110,100]:List UInt8) then some (70,fst0 lp i)
    else if (prA lp i).f0.size≤9223372036854775807 then(match fst0 lp i (prA lp i).f0 with
     |some _=>some (6,fst0 lp i)
     |none=>tag_places.l0 m lp k (i+1) (fun q=>if q=(prA lp i).f0 then some (i:Int) else fst0 lp i q)) else none
    else some (70,fst0 lp i)) else some (70,fst0 lp i)) (pairsP lp (d+1) i,g)→Ev2 (fun m k=>tag_places.l0 m lp k i (fst0 lp i)) (pairsP lp (d+1) i,g):=by
   intro g hg;refine Ev2.step (fun m k=>?_) hg;simp only [tag_places.l0];rw [if_pos hlt];rfl
  unfold pairsP at key ⊢;by_cases h1:ownP (prA lp i).f0=true
  ·simp only [if_pos h1] at key ⊢
   by_cases h2:ownP (prA lp i).f1=true
   ·simp only [if_pos h2] at key ⊢
    by_cases h3:(prA lp i).f0=UND
    ·simp only [if_pos h3] at key ⊢
     refine⟨fst0 lp i,key _ ?_,fun e=>absurd e (by decide)⟩
     refine Ev2.bind0 (bare_f _) (Ev2.bind0 (bare_f _) ?_);refine Ev2.congr (fun m k=>(if_pos h1).trans (if_pos h2)) (Ev2.bind0 (tgP_ok _).text (Ev2.nowc (fun m k=>if_pos ((und_iff _).2 ((own_txt h1).trans h3)))))
    ·simp only [if_neg h3] at key ⊢
     have hs:=own_small h1;by_cases h4:twice_ lp i=true
     ·simp only [if_pos h4] at key ⊢
      refine⟨fst0 lp i,key _ ?_,fun e=>absurd e (by decide)⟩
      refine Ev2.bind0 (bare_f _) (Ev2.bind0 (bare_f _) ?_);refine Ev2.congr (fun m k=>(if_pos h1).trans (if_pos h2)) (Ev2.bind0 (tgP_ok _).text ?_);refine Ev2.nowc (fun m k=>(if_neg (fun e=>h3 ((own_txt h1).symm.trans ((und_iff _).1 e)))).trans ((if_pos (by omega)).trans ?_))
      cases hf:fst0 lp i (prA lp i).f0 with
      |none=>rw [twice_iff.2 hf] at h4;cases h4
      |some j=>rfl
     ·simp only [if_neg h4] at key ⊢
      have hf:=twice_iff.1 (Bool.eq_false_iff.2 h4);refine⟨g1,key _ ?_,hz⟩;refine Ev2.bind0 (bare_f _) (Ev2.bind0 (bare_f _) ?_);refine Ev2.congr (fun m k=>(if_pos h1).trans (if_pos h2)) (Ev2.bind0 (tgP_ok _).text ?_);refine Ev2.congr (fun m k=>(if_neg (fun e=>h3 ((own_txt h1).symm.trans ((und_iff _).1 e)))).trans ((if_pos (by omega)).trans ?_)) hg1
      rw [hf,fst0_next hlt hf]
   ·simp only [if_neg h2] at key ⊢
    refine⟨fst0 lp i,key _ ?_,fun e=>absurd e (by decide)⟩
    exact Ev2.bind0 (bare_f _) (Ev2.bind0 (bare_f _) (Ev2.nowc (fun m k=>(if_pos h1).trans (if_neg h2))))
  ·simp only [if_neg h1] at key ⊢
   refine⟨fst0 lp i,key _ ?_,fun e=>absurd e (by decide)⟩
   exact Ev2.bind0 (bare_f _) (Ev2.bind0 (bare_f _) (Ev2.nowc (fun m k=>if_neg h1)))
def allP (lp:List Pr):Int:=if 256<lp.length then 5 else pairsP lp lp.length 0
theorem places_f (lp:List Pr):∃ g,Ev (fun k=>tag_places.f k lp) (allP lp,g)∧(allP lp=0→g=fst0 lp lp.length∧lp.length≤256):=by
 unfold tag_places.f allP;by_cases h:256<lp.length
 ·simp only [if_pos h];exact⟨_,Ev.now _,fun e=>absurd e (by decide)⟩
 ·simp only [if_neg h]
  obtain⟨g,hg,hz⟩:=places_l lp lp.length 0 (by omega) (by omega)
  rw [fst0_zero] at hg;exact⟨g,hg.diag,fun e=>⟨hz e,by omega⟩⟩
theorem pairs_own (lp:List Pr):∀ (d i:Nat),lp.length - i=d→pairsP lp d i=0→∀ j,i≤j→j<lp.length→ownP (prA lp j).f0=true∧ownP (prA lp j).f1=true:=by
 intro d;induction d with
 |zero=>intro i hd _ j h1 h2;omega
 | succ d ih=>
  intro i hd h j hj hl;unfold pairsP at h;by_cases h1:ownP (prA lp i).f0=true
  ·rw [if_pos h1] at h
   by_cases h2:ownP (prA lp i).f1=true
   ·rw [if_pos h2] at h
    by_cases h3:(prA lp i).f0=UND
    ·rw [if_pos h3] at h;exact absurd h (by decide)
    ·rw [if_neg h3] at h
     by_cases h4:twice_ lp i=true
     ·rw [if_pos h4] at h;exact absurd h (by decide)
     ·rw [if_neg h4] at h
      by_cases e:j=i
      ·subst e;exact⟨h1,h2⟩
      ·exact ih (i+1) (by omega) h j (by omega) hl
   ·rw [if_neg h2] at h;exact absurd h (by decide)
  ·rw [if_neg h1] at h;exact absurd h (by decide)
theorem chk_inj {t u:Tg} (ht:chkT t=0) (hu:chkT u=0) (e:txtT t=txtT u):t=u:=by
 obtain⟨l,s,r,V,K⟩:=t;obtain⟨l',s',r',V',K'⟩:=u;have o:=ok_of ht;have o':=ok_of hu;have a:=read_back o (parts_pieces o) 0;have b:=read_back o' (parts_pieces o') 0;have e1:joinT (parts l s r V K)=joinT (parts l' s' r' V' K'):=e;rw [e1,b] at a;simpa using a.symm
def parP (lp:List Pr) (t:Tg):Tg:=if 0<t.2.2.2.2.length then nextT t else match fst0 lp lp.length (txtT t) with
 |some i=>tgP (rd_T45 lp i).f1
 |none=>nextT t
theorem fst0_some {lp:List Pr} {x:ByteArray} {i:Int} (h:fst0 lp lp.length x=some i):∃ j:Nat,i=(j:Int)∧j<lp.length∧(prA lp j).f0=x:=by
 unfold fst0 at h;rw [List.take_length] at h;obtain⟨j,hj,rfl⟩:=Option.map_eq_some_iff.1 h;obtain⟨hl,h1,_⟩:=List.findIdx?_eq_some_iff_getElem.1 hj;refine⟨j,rfl,hl,?_⟩;have h2:=prA_at hl;rw [List.getElem?_eq_getElem hl] at h2;rw [← Option.some.inj h2];exact of_decide_eq_true h1
theorem next_key {t:Tg} (h:0<t.2.2.2.2.length):nextT t=(t.1,t.2.1,t.2.2.1,t.2.2.2.1,[]):=if_pos h
theorem tparent_f {t:Tg} (z:SzT t) (h:chkT t=0) (lp:List Pr):Ev (fun k=>tag_parent.f k (fst0 lp lp.length) t.1 t.2.1 t.2.2.1 t.2.2.2.1 t.2.2.2.2 lp) (parP lp t):=by
 have ht:=textT_f z h;have hs:=txt_small z h;unfold tag_parent.f parP;by_cases h1:0<t.2.2.2.2.length
 ·simp only [if_pos h1]
  rw [next_key h1];exact Ev.now _
 ·simp only [if_neg h1]
  refine Ev.bind ht ?_;refine Ev.congr (fun k=>if_pos hs) ?_;cases hf:fst0 lp lp.length (txtT t) with
  |some i=>
   obtain⟨j,rfl,hj,_⟩:=fst0_some hf;simp only;refine Ev.congr (fun k=>if_pos ⟨by omega,by omega⟩) ?_
   exact Ev.bind (bare_f _) (Ev.now _)
  | none=>
   simp only;unfold nextT;rw [if_neg h1];by_cases h2:0<t.2.2.2.1.length
   ·simp only [if_pos h2];exact Ev.now _
   ·simp only [if_neg h2,toList_L]
    by_cases h3:L t.2.2.1=[]
    ·simp only [if_pos h3]
     by_cases h4:L t.2.1=[]
     ·simp only [if_pos h4];exact Ev.now _
     ·simp only [if_neg h4];exact Ev.now _
    ·simp only [if_neg h3];exact Ev.now _
def fndP (lp:List Pr) (x:ByteArray):Nat→Nat→Option Nat
 |0,_=>none
 |d+1,i=>if (prA lp i).f0=x then some i else fndP lp x d (i+1)
theorem fnd_idx (lp:List Pr) (x:ByteArray):∀ (d i:Nat),lp.length - i=d→fndP lp x d i=Option.map (fun j=>j+i) ((lp.drop i).findIdx? fun p=>decide (p.f0=x)):=by
 intro d;induction d with
 |zero=>
  intro i hd;rw [List.drop_eq_nil_of_le (by omega)];rfl
 | succ d ih=>
  intro i hd;have hlt:i<lp.length:=by omega
  have e:lp.drop i=prA lp i :: lp.drop (i+1):=by
   rw [List.drop_eq_getElem_cons hlt]
   congr 1
   have h2:=prA_at hlt;rw [List.getElem?_eq_getElem hlt] at h2;exact Option.some.inj h2
  rw [e,List.findIdx?_cons];unfold fndP;by_cases h:(prA lp i).f0=x
  ·rw [if_pos h,decide_eq_true h];simp
  ·rw [if_neg h,decide_eq_false h,ih (i+1) (by omega)]
   simp only [Bool.false_eq_true,if_false,Option.map_map]
   congr 1;funext j;simp only [Function.comp];omega
theorem fnd_fst (lp:List Pr) (x:ByteArray):fst0 lp lp.length x=Option.map (fun i:Nat=>(i:Int)) (fndP lp x lp.length 0):=by
 rw [fnd_idx lp x lp.length 0 (by omega)]
 unfold fst0;rw [List.take_length,List.drop_zero];simp
theorem rpar_l {t:Tg} (z:SzT t) (h:chkT t=0) (lp:List Pr):∀ (d i:Nat),lp.length - i=d→Ev2 (fun m k=>i7_parent.l0 m t.1 t.2.1 t.2.2.1 t.2.2.2.1 t.2.2.2.2 lp k i) (fndP lp (txtT t) d i):=by
 have ht:Ev (fun k=>i7_text.f k t.1 t.2.1 t.2.2.1 t.2.2.2.1 t.2.2.2.2) (txtT t):=rtext_f z (few_of h).2 (few_of h).1;intro d;induction d with
 |zero=>
  intro i hd;refine Ev2.step (g:=fun _ _=>some none) (fun m k=>?_) (Ev2.now _);simp only [i7_parent.l0];rw [if_neg (by omega)]
 | succ d ih=>
  intro i hd;refine Ev2.step (g:=fun m k=>(i7_text.f m t.1 t.2.1 t.2.2.1 t.2.2.2.1 t.2.2.2.2).bind fun x=>if (prA lp i).f0.toList=x.toList then some (some i) else i7_parent.l0 m t.1 t.2.1 t.2.2.1 t.2.2.2.1 t.2.2.2.2 lp k (i+1)) (fun m k=>?_) ?_
  ·simp only [i7_parent.l0]
   rw [if_pos (by omega)]
  ·refine Ev2.bind0 ht ?_
   unfold fndP;by_cases e:(prA lp i).f0=txtT t
   ·rw [if_pos e];exact Ev2.nowc (fun m k=>if_pos ((eq_iffL _ _).2 e))
   ·rw [if_neg e];exact Ev2.congr (fun m k=>if_neg (fun q=>e ((eq_iffL _ _).1 q))) (ih (i+1) (by omega))
theorem rparent_f {t:Tg} (z:SzT t) (h:chkT t=0) (lp:List Pr):Ev (fun k=>i7_parent.f k t.1 t.2.1 t.2.2.1 t.2.2.2.1 t.2.2.2.2 lp) (parP lp t):=by
 have hv:=(few_of h).1;unfold i7_parent.f parP;by_cases h1:0<t.2.2.2.2.length
 ·simp only [if_pos h1]
  rw [next_key h1];exact Ev.now _
 ·simp only [if_neg h1]
  refine Ev.bind (rpar_l z h lp lp.length 0 (by omega)).diag ?_
  rw [fnd_fst];cases hf:fndP lp (txtT t) lp.length 0 with
  |some j=>
   simp only [Option.map_some];exact Ev.bind (canon_f _) (Ev.now _)
  | none=>
   simp only [Option.map_none];unfold nextT;rw [if_neg h1];by_cases h2:0<t.2.2.2.1.length
   ·simp only [if_pos h2];rw [if_pos (by omega)];exact Ev.now _
   ·simp only [if_neg h2,toList_L]
    by_cases h3:L t.2.2.1=[]
    ·simp only [if_pos h3]
     by_cases h4:L t.2.1=[]
     ·simp only [if_pos h4];exact Ev.now _
     ·simp only [if_neg h4];exact Ev.now _
    ·simp only [if_neg h3];exact Ev.now _
theorem par_ok {t:Tg} (z:SzT t) (h:chkT t=0) {lp:List Pr} (hp:allP lp=0):chkT (parP lp t)=0∧SzT (parP lp t):=by
 unfold parP;by_cases h1:0<t.2.2.2.2.length
 ·rw [if_pos h1];exact⟨chk_next h,sz_next z⟩
 ·rw [if_neg h1]
  cases hf:fst0 lp lp.length (txtT t) with
  | some i=>
   obtain⟨j,rfl,hj,_⟩:=fst0_some hf;have h0:pairsP lp lp.length 0=0:=by
    unfold allP at hp;by_cases h6:256<lp.length
    ·rw [if_pos h6] at hp;exact absurd hp (by decide)
    ·rw [if_neg h6] at hp;exact hp
   have ho:=(pairs_own lp lp.length 0 (by omega) h0 j (by omega) hj).2
   exact⟨own_chk ho,(tgP_ok _).sz⟩
  |none=>exact ⟨chk_next h,sz_next z⟩
def unU:List Pr→List ByteArray→Nat
 |[],_=>0
 |p :: lp,xs=>(if Lib.containsS xs p.f0=true then 0 else 1)+unU lp xs
theorem unU_len:∀ (lp:List Pr) (xs:List ByteArray),unU lp xs≤lp.length
 |[],_=>Nat.le_refl _
 |p :: lp,xs=>by
  have:=unU_len lp xs;simp only [unU,List.length_cons];split <;> omega
theorem unU_app (x:ByteArray):∀ (lp:List Pr) (xs:List ByteArray),unU lp (xs++[x])≤unU lp xs
 |[],_=>Nat.le_refl _
 |p :: lp,xs=>by
  have:=unU_app x lp xs;simp only [unU];by_cases h1:p.f0 ∈ xs
  ·rw [if_pos ((Lib.containsS_iff ..).2 h1),if_pos ((Lib.containsS_iff ..).2 (List.mem_append_left _ h1))];omega
  ·rw [if_neg (fun e=>h1 ((Lib.containsS_iff ..).1 e)) (c:=Lib.containsS xs p.f0=true)];split <;> omega
theorem unU_lt (x:ByteArray):∀ (lp:List Pr) (xs:List ByteArray),x ∉ xs→(∃ p ∈ lp,p.f0=x)→unU lp (xs++[x])<unU lp xs
 |[],_,_,h=>by obtain⟨p,hp,_⟩:=h;cases hp
 | p :: lp,xs,hx,h=>by
  simp only [unU];by_cases h1:p.f0=x
  ·have:=unU_app x lp xs
   rw [if_neg (c:=Lib.containsS xs p.f0=true) (fun e=>hx (h1▸(Lib.containsS_iff ..).1 e)),if_pos ((Lib.containsS_iff ..).2 (by rw [h1];simp))];omega
  ·have ih:=unU_lt x lp xs hx (by
    obtain⟨q,hq,e⟩:=h;rcases List.mem_cons.1 hq with rfl|hq
    ·exact absurd e h1
    ·exact ⟨q,hq,e⟩)
   by_cases h2:p.f0 ∈ xs
   ·rw [if_pos ((Lib.containsS_iff ..).2 h2),if_pos ((Lib.containsS_iff ..).2 (List.mem_append_left _ h2))];omega
   ·have h3:¬ Lib.containsS (xs++[x]) p.f0=true:=fun e=>by
     rcases List.mem_append.1 ((Lib.containsS_iff ..).1 e) with e|e
     ·exact h2 e
     ·exact h1 (List.mem_singleton.1 e)
    rw [if_neg (c:=Lib.containsS xs p.f0=true) (fun e=>h2 ((Lib.containsS_iff ..).1 e)),if_neg h3];omega
def mea (lp:List Pr) (acc:List Tg) (t:Tg):Nat:=unU lp (acc.map txtT)*132+farT t
theorem mea_lt {lp:List Pr} (hp:allP lp=0) {acc:List Tg} {t:Tg} (z:SzT t) (h:chkT t=0) (hr:t≠rootT) (hn:txtT t ∉ acc.map txtT):mea lp (acc++[t]) (parP lp t)<mea lp acc t:=by
 have hq:=par_ok z h hp;unfold mea;rw [List.map_append,List.map_singleton];have hU:=unU_app (txtT t) lp (acc.map txtT);have hfar:=far_next hr;unfold parP at hq ⊢;by_cases h1:0<t.2.2.2.2.length
 ·rw [if_pos h1];omega
 ·rw [if_neg h1] at hq ⊢
  cases hf:fst0 lp lp.length (txtT t) with
  |some i=>
   rw [hf] at hq;obtain⟨j,rfl,hj,hx⟩:=fst0_some hf;have:=unU_lt (txtT t) lp (acc.map txtT) hn ⟨prA lp j,List.mem_of_getElem? (prA_at hj),hx⟩;have hfew:=far_few hq.1;simp only at hfew ⊢;omega
  |none=>simp only;omega
theorem rdS_at {xs:List Tg} {i:Nat} {a:Tg} (h:xs[i]?=some a):rd_T25 (xs.map toS) (i:Int)=toS a:=by simp [rd_T25,h]
theorem sameT_f {a b:Tg} (ha:chkT a=0):Ev (fun k=>i7_Same.f k (toS a).f0 (toS a).f1 (toS a).f2 (toS a).f3 (toS a).f4 b.1 b.2.1 b.2.2.1 b.2.2.2.1 b.2.2.2.2) (decide (a=b)):=by
 have hf:=few_of ha;have h:=same_g a.1 a.2.1 a.2.2.1 a.2.2.2.1 a.2.2.2.2 b.1 b.2.1 b.2.2.1 b.2.2.2.1 b.2.2.2.2 (by omega) (by omega)
 obtain⟨l,s,r,V,K⟩:=a;obtain⟨l',s',r',V',K'⟩:=b;simp only [Prod.mk.injEq];exact h
def inP' (xs:List Tg) (p:Tg):Bool:=xs.any fun a=>decide (a=p)
theorem inP_iff (xs:List Tg) (p:Tg):inP' xs p=true↔p ∈ xs:=by
 unfold inP';rw [List.any_eq_true];exact⟨fun ⟨a,h,e⟩=>by rw [← of_decide_eq_true e];exact h,fun h=>⟨p,h,decide_eq_true rfl⟩⟩
theorem in_l (acc:List Tg) (p:Tg) (hc:∀ a ∈ acc,chkT a=0):∀ (d i:Nat),acc.length - i=d→Ev2 (fun m k=>i7_chain.l1 m (acc.map toS) p k i) (inP' (acc.drop i) p):=by
 intro d;induction d with
 |zero=>
  intro i hd;have e0:acc.drop i=[]:=List.drop_eq_nil_of_le (by omega)
  rw [e0];refine Ev2.step (g:=fun _ _=>some false) (fun m k=>?_) (Ev2.now _);simp only [i7_chain.l1];rw [if_neg (by rw [List.length_map];omega)]
 | succ d ih=>
  intro i hd;have hlt:i<acc.length:=by omega
  have ha:=List.getElem?_eq_getElem hlt;have e:=rdS_at ha;have e0:inP' (acc.drop i) p=(decide (acc[i]=p)||inP' (acc.drop (i+1)) p):=by
   rw [List.drop_eq_getElem_cons hlt];rfl
  have hs:=sameT_f (b:=p) (hc _ (List.getElem_mem hlt));rw [e0];refine Ev2.step (g:=fun m k=>(i7_Same.f m (toS acc[i]).f0 (toS acc[i]).f1 (toS acc[i]).f2 (toS acc[i]).f3 (toS acc[i]).f4 p.1 p.2.1 p.2.2.1 p.2.2.2.1 p.2.2.2.2).bind fun b=>if b=true then some true else i7_chain.l1 m (acc.map toS) p k (i+1)) (fun m k=>?_) ?_
  ·simp only [i7_chain.l1]
   rw [if_pos (by rw [List.length_map];omega),e]
  ·refine Ev2.bind0 hs ?_
   by_cases h:acc[i]=p
   ·rw [decide_eq_true h]
    exact Ev2.nowc (fun _ _=>rfl)
   ·rw [decide_eq_false h]
    exact Ev2.congr (fun m k=>if_neg (by decide)) (ih (i+1) (by omega))
theorem root_f {t:Tg} (z:SzT t) (h:chkT t=0):Ev (fun k=>i7_Root.f k t.1 t.2.1 t.2.2.1 t.2.2.2.1 t.2.2.2.2) (decide (txtT t=UND)):=by
 have ht:Ev (fun k=>i7_text.f k t.1 t.2.1 t.2.2.1 t.2.2.2.1 t.2.2.2.2) (txtT t):=rtext_f z (few_of h).2 (few_of h).1;unfold i7_Root.f;refine Ev.bind ht ?_;have e:=beq_L (txtT t) UND;rw [← e,toList_L UND];exact Ev.now _
theorem chains (lp:List Pr) (hp:allP lp=0):∀ (n:Nat) (t:Tg) (hd:ByteArray→Option Int) (acc:List Tg),mea lp acc t≤n→chkT t=0→SzT t→(∀ a ∈ acc,chkT a=0)→(∀ y,hd y≠none↔y ∈ acc.map txtT)→txtT t ∉ acc.map txtT→acc.length+n<100000→
 ∃ r:List Tg×Int,Ev2 (fun m k=>tag_chain.l0 (fst0 lp lp.length) lp m k hd (acc.map toS) t) (r.1.map toS,r.2)∧Ev2 (fun m k=>i7_chain.l0 lp m k ((acc++[t]).map toS) t) (r.1.map toS,r.2)∧r.1.length≤100001∧∀ a ∈ r.1,chkT a=0:=by
 intro n;induction n using Nat.strongRecOn with
 | _ n ih=>
  intro t hd acc hm hc z hacc hh hn hlen;have ht:=textT_f z hc;have hs:=txt_small z hc;have hcop:=copied_f hc;have hnone:hd (txtT t)=none:=Classical.byContradiction fun h=>hn ((hh _).1 h);have hr:=root_f z hc;have hacc1:∀ a ∈ acc++[t],chkT a=0:=fun a ha=>by
   rcases List.mem_append.1 ha with ha|ha
   ·exact hacc a ha
   ·rw [List.mem_singleton.1 ha];exact hc
  have hl1:((acc++[t]).map toS).length=acc.length+1:=by simp
  have em:(acc++[t]).map toS=acc.map toS++[toS t]:=by simp
  have tagStep:∀ R,Ev2 (fun m k=>if (txtT t).toList=([117,110,100]:List UInt8) then some ((acc++[t]).map toS,0)
   else(tag_parent.f m (fst0 lp lp.length) t.1 t.2.1 t.2.2.1 t.2.2.2.1 t.2.2.2.2 lp).bind fun p=>tag_chain.l0 (fst0 lp lp.length) lp m k (fun q=>if q=txtT t then some ((acc.map toS).length:Int) else hd q) ((acc++[t]).map toS) p) R→
   Ev2 (fun m k=>tag_chain.l0 (fst0 lp lp.length) lp m k hd (acc.map toS) t) R:=by
   intro R hR;refine Ev2.step (g:=fun m k=>(tag_text.f m t.1 t.2.1 t.2.2.1 t.2.2.2.1 t.2.2.2.2).bind fun x=>if x.size≤9223372036854775807 then(match hd x with
    |some _=>some ([],6)
    |none=>if (acc.map toS).length<1000000000000 then(tag_copied.f t.1 t.2.1 t.2.2.1 t.2.2.2.1 t.2.2.2.2).bind fun c=>if x.toList=([117,110,100]:List UInt8) then some (acc.map toS++[⟨c.1,c.2.1,c.2.2.1,c.2.2.2.1,c.2.2.2.2⟩],0)
     else(tag_parent.f m (fst0 lp lp.length) t.1 t.2.1 t.2.2.1 t.2.2.2.1 t.2.2.2.2 lp).bind fun p=>tag_chain.l0 (fst0 lp lp.length) lp m k (fun q=>if q=x then some ((acc.map toS).length:Int) else hd q) (acc.map toS++[⟨c.1,c.2.1,c.2.2.1,c.2.2.2.1,c.2.2.2.2⟩]) p else none) else none) (fun m k=>?_) ?_
   ·simp only [tag_chain.l0];rfl
   ·refine Ev2.bind0 ht (Ev2.congr (fun m k=>if_pos hs) ?_)
    rw [hnone];refine Ev2.congr (fun m k=>if_pos (by rw [List.length_map];omega)) ?_
    rw [hcop];refine Ev2.congr (fun m k=>Option.bind_some ..) ?_;rw [em] at hR;exact hR
  have refStep:∀ R,Ev2 (fun m k=>if decide (txtT t=UND)=true then some ((acc++[t]).map toS,0) else(i7_parent.f m t.1 t.2.1 t.2.2.1 t.2.2.2.1 t.2.2.2.2 lp).bind fun p=>(i7_chain.l1 m ((acc++[t]).map toS) p m 0).bind fun q=>if q=true then some ([],6) else if ((acc++[t]).map toS).length<1000000000000 then i7_chain.l0 lp m k ((acc++[t]).map toS++[⟨p.1,p.2.1,p.2.2.1,p.2.2.2.1,p.2.2.2.2⟩]) p else none) R→
   Ev2 (fun m k=>i7_chain.l0 lp m k ((acc++[t]).map toS) t) R:=by
   intro R hR;refine Ev2.step (g:=fun m k=>(i7_Root.f m t.1 t.2.1 t.2.2.1 t.2.2.2.1 t.2.2.2.2).bind fun b=>if b=true then some ((acc++[t]).map toS,0) else(i7_parent.f m t.1 t.2.1 t.2.2.1 t.2.2.2.1 t.2.2.2.2 lp).bind fun p=>(i7_chain.l1 m ((acc++[t]).map toS) p m 0).bind fun q=>if q=true then some ([],6) else if ((acc++[t]).map toS).length<1000000000000 then i7_chain.l0 lp m k ((acc++[t]).map toS++[⟨p.1,p.2.1,p.2.2.1,p.2.2.2.1,p.2.2.2.2⟩]) p else none) (fun m k=>?_) ?_
   ·simp only [i7_chain.l0]
   ·exact Ev2.bind0 hr hR
  by_cases hU:txtT t=UND
  ·refine ⟨(acc++[t],0),tagStep _ (Ev2.nowc (fun m k=>if_pos ((und_iff _).2 hU))),refStep _ (Ev2.nowc (fun m k=>if_pos (decide_eq_true hU))),?_,hacc1⟩
   simp only [List.length_append,List.length_cons,List.length_nil];omega
  ·have hroot:t≠rootT:=fun e=>hU (by rw [e];exact txt_root)
   have hlt:=mea_lt hp z hc hroot hn;obtain⟨pc,pz⟩:=par_ok z hc hp;have hd1:∀ y,(fun q=>if q=txtT t then some ((acc.map toS).length:Int) else hd q) y≠none↔y ∈ (acc++[t]).map txtT:=fun y=>by
    simp only [List.map_append,List.map_cons,List.map_nil,List.mem_append,List.mem_singleton];by_cases hy:y=txtT t
    ·simp [hy]
    ·simp only [hy,or_false,if_false];exact hh y
   have hin:inP' (acc++[t]) (parP lp t)=true↔txtT (parP lp t) ∈ (acc++[t]).map txtT:=by
    rw [inP_iff];refine⟨fun h=>List.mem_map.2 ⟨_,h,rfl⟩,fun h=>?_⟩;obtain⟨a,ha,e⟩:=List.mem_map.1 h;rw [← chk_inj (hacc1 a ha) pc e];exact ha
   have hl:=(in_l (acc++[t]) (parP lp t) hacc1 (acc++[t]).length 0 (by omega)).diag
   rw [List.drop_zero] at hl;by_cases hq:inP' (acc++[t]) (parP lp t)=true
   ·refine ⟨([],6),tagStep _ ?_,refStep _ ?_,by simp,fun _ h=>by cases h⟩
    ·refine Ev2.congr (fun m k=>if_neg (fun e=>hU ((und_iff _).1 e))) (Ev2.bind0 (tparent_f z hc lp) ?_)
     have h6:(fun q=>if q=txtT t then some ((acc.map toS).length:Int) else hd q) (txtT (parP lp t))≠none:=(hd1 _).2 (hin.1 hq);obtain⟨j,hj⟩:=Option.ne_none_iff_exists'.1 h6;refine Ev2.step (g:=fun m k=>(tag_text.f m (parP lp t).1 (parP lp t).2.1 (parP lp t).2.2.1 (parP lp t).2.2.2.1 (parP lp t).2.2.2.2).bind fun x=>if x.size≤9223372036854775807 then(match (fun q=>if q=txtT t then some ((acc.map toS).length:Int) else hd q) x with
      |some _=>some ([],6)
      |none=>if ((acc++[t]).map toS).length<1000000000000 then(tag_copied.f (parP lp t).1 (parP lp t).2.1 (parP lp t).2.2.1 (parP lp t).2.2.2.1 (parP lp t).2.2.2.2).bind fun c=>if x.toList=([117,110,100]:List UInt8) then some ((acc++[t]).map toS++[⟨c.1,c.2.1,c.2.2.1,c.2.2.2.1,c.2.2.2.2⟩],0)
       else(tag_parent.f m (fst0 lp lp.length) (parP lp t).1 (parP lp t).2.1 (parP lp t).2.2.1 (parP lp t).2.2.2.1 (parP lp t).2.2.2.2 lp).bind fun p=>tag_chain.l0 (fst0 lp lp.length) lp m k (fun q=>if q=x then some (((acc++[t]).map toS).length:Int) else(fun q=>if q=txtT t then some ((acc.map toS).length:Int) else hd q) q) ((acc++[t]).map toS++[⟨c.1,c.2.1,c.2.2.1,c.2.2.2.1,c.2.2.2.2⟩]) p else none) else none) (fun m k=>?_) ?_
     ·simp only [tag_chain.l0];rfl
     ·refine Ev2.bind0 (textT_f pz pc) (Ev2.congr (fun m k=>if_pos (txt_small pz pc)) ?_)
      rw [hj];exact Ev2.nowc (fun _ _=>rfl)
    ·exact Ev2.congr (fun m k=>if_neg (by rw [decide_eq_false hU];decide)) (Ev2.bind0 (rparent_f z hc lp) (Ev2.bind0 hl (Ev2.nowc (fun m k=>if_pos hq))))
   ·cases n with
    |zero=>omega
    | succ n=>
     obtain⟨r,h1,h2,h3,h4⟩:=ih n (Nat.lt_succ_self n) (parP lp t) _ (acc++[t]) (by omega) pc pz hacc1 hd1 (fun e=>hq (hin.2 e)) (by simp only [List.length_append,List.length_cons,List.length_nil];omega)
     refine⟨r,tagStep _ ?_,refStep _ ?_,h3,h4⟩
     ·exact Ev2.congr (fun m k=>if_neg (fun e=>hU ((und_iff _).1 e))) (Ev2.bind0 (tparent_f z hc lp) h1)
     ·refine Ev2.congr (fun m k=>if_neg (by rw [decide_eq_false hU];decide)) (Ev2.bind0 (rparent_f z hc lp) (Ev2.bind0 hl ?_))
      refine Ev2.congr (fun m k=>(if_neg hq).trans (if_pos (by rw [hl1];omega))) ?_
      have em2:((acc++[t])++[parP lp t]).map toS=(acc++[t]).map toS++[toS (parP lp t)]:=by simp
      rw [em2] at h2;exact h2
theorem same_l (xs:List Tg) (hn:xs.length≤100001) (hc:∀ a ∈ xs,chkT a=0):∀ (d i:Nat),xs.length - i=d→i≤xs.length→Ev (fun k=>l7_same.l0 k (xs.map toS) (xs.map toS) (i:Int)) true:=by
 intro d;induction d with
 |zero=>
  intro i hd hi;refine Ev.step (f:=fun _=>some true) (fun k=>?_) (Ev.now _);simp only [l7_same.l0,List.length_map];rw [if_neg (by omega)]
 | succ d ih=>
  intro i hd hi;have hlt:i<xs.length:=by omega
  have e:=rdS_at (List.getElem?_eq_getElem hlt);have hs:=sameT_f (b:=xs[i]) (hc _ (List.getElem_mem hlt));rw [decide_eq_true rfl] at hs;refine Ev.step (f:=fun k=>(i7_Same.f k (toS xs[i]).f0 (toS xs[i]).f1 (toS xs[i]).f2 (toS xs[i]).f3 (toS xs[i]).f4 (toS xs[i]).f0 (toS xs[i]).f1 (toS xs[i]).f2 (toS xs[i]).f3 (toS xs[i]).f4).bind fun b=>if b=true then l7_same.l0 k (xs.map toS) (xs.map toS) (wrap64 ((i:Int)+1)) else some false) (fun k=>?_) ?_
  ·simp only [l7_same.l0,List.length_map]
   rw [if_pos (by omega),if_pos (by omega),if_pos (by omega),e]
  ·refine Ev.bind hs ?_
   rw [w64 (by omega)]
   exact Ev.congr (fun k=>if_pos rfl) (ih (i+1) (by omega) (by omega))
theorem sameS_f (xs:List Tg) (hn:xs.length≤100001) (hc:∀ a ∈ xs,chkT a=0):Ev (fun k=>l7_same.f k (xs.map toS) (xs.map toS)) true:=by
 unfold l7_same.f;exact Ev.congr (fun k=>if_pos rfl) (same_l xs hn hc xs.length 0 (by omega) (by omega))
theorem both {t:Tg} (z:SzT t) (lp:List Pr):∃ r:List Tg×Int,Ev (fun k=>tag_Chain.f k t.1 t.2.1 t.2.2.1 t.2.2.2.1 t.2.2.2.2 lp) (r.1.map toS,r.2)∧Ev (fun k=>i7_Chain.f k t.1 t.2.1 t.2.2.1 t.2.2.2.1 t.2.2.2.2 lp) (r.1.map toS,r.2)∧r.1.length≤100001∧∀ a ∈ r.1,chkT a=0:=by
 have c1:Ev (fun k=>tag_Check.f k t.1 t.2.1 t.2.2.1 t.2.2.2.1 t.2.2.2.2) (chkT t):=check_f z;have c2:Ev (fun k=>i7_Check.f k t.1 t.2.1 t.2.2.1 t.2.2.2.1 t.2.2.2.2) (chkT t):=rcheck_f z;unfold tag_Chain.f i7_Chain.f;by_cases h:chkT t=0
 ·obtain ⟨g,hg,hz⟩:=places_f lp
  have hr:Ev (fun k=>i7_pairs.f k lp) (allP lp):=pairs_f lp;by_cases h1:allP lp=0
  ·obtain ⟨rfl,hl⟩:=hz h1
   have hm:mea lp [] t≤40000:=by
    have a:=unU_len lp (([]:List Tg).map txtT);have b:=far_few h;unfold mea;omega
   obtain⟨r,r1,r2,r3,r4⟩:=chains lp h1 40000 t (fun _=>none) [] hm h z (fun _ h=>by cases h) (fun y=>by simp) (by simp) (by simp)
   refine⟨r,Ev.bind c1 (Ev.congr (fun k=>if_pos h) (Ev.bind hg (Ev.congr (fun k=>if_pos h1) r1.diag))),Ev.bind c2 (Ev.congr (fun k=>if_pos h) (Ev.bind hr (Ev.congr (fun k=>if_pos h1) r2.diag))),r3,r4⟩
  ·exact ⟨([],allP lp),Ev.bind c1 (Ev.congr (fun k=>if_pos h) (Ev.bind hg (Ev.congr (fun k=>if_neg h1) (Ev.now _)))),Ev.bind c2 (Ev.congr (fun k=>if_pos h) (Ev.bind hr (Ev.congr (fun k=>if_neg h1) (Ev.now _)))),by simp,fun _ h=>by cases h⟩
 ·exact ⟨([],chkT t),Ev.bind c1 (Ev.congr (fun k=>if_neg h) (Ev.now _)),Ev.bind c2 (Ev.congr (fun k=>if_neg h) (Ev.now _)),by simp,fun _ h=>by cases h⟩
end Go.Proofs.YtphjhbppjakocaaGreatDoor.Pl
