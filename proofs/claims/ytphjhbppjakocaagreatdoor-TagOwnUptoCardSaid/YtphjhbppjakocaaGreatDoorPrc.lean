/- Several texts of this claim in one: Prc, Pl4, Pl5, Awk2, Back1, Case0, Pl6, Back2, Back3, Pl7, Pl8, Pl9, Pl10; conditions: those that each theorem states. -/
import Derived.Test.YtphjhbppjakocaaGreatDoorPU16
import Derived.Test.YtphjhbppjakocaaGreatDoorQBare
import Derived.Test.YtphjhbppjakocaaGreatDoorPU17
import Derived.Test.YtphjhbppjakocaaGreatDoorChk1
import Derived.Test.YtphjhbppjakocaaGreatDoorRPut
import Derived.Test.YtphjhbppjakocaaGreatDoorPl1
import Derived.Test.YtphjhbppjakocaaGreatDoorRKeys
import Derived.Test.YtphjhbppjakocaaGreatDoorRRead
import Derived.Test.YtphjhbppjakocaaGreatDoorRParse
set_option linter.unusedVariables false
set_option linter.unusedSimpArgs false
namespace Go.Proofs.YtphjhbppjakocaaGreatDoor.Pl
open Go.RowKit Go.Proofs.YtphjhbppjakocaaGreatDoorW.PrintWords Go.Proofs.YtphjhbppjakocaaGreatDoor.PTag
theorem checkP_few {l s r:ByteArray} {V:List ByteArray} {K:List Ke} (h:checkP l s r V K=0):V.length≤64∧K.length≤64:=by
 unfold checkP at h;split at h
 ·split at h
  ·split at h
   ·unfold contP at h
    split at h
    ·exact absurd h (by omega)
    ·rename_i h1
     split at h
     ·unfold restK at h
      split at h
      ·exact absurd h (by omega)
      ·rename_i h2;exact⟨by omega,by omega⟩
     ·rename_i h2;exact absurd h h2
   ·exact absurd h (by omega)
  ·exact absurd h (by omega)
 ·exact absurd h (by omega)
theorem copy_f {l s r:ByteArray} {V:List ByteArray} {K:List Ke} (z:Sz l s r V K):i7_Copy.f l s r V K=some (l,s,r,V,K):=by
 have h1:=z.nV;have h2:=z.nK;unfold i7_Copy.f;simp only [Option.bind_some,List.nil_append,List.length_nil,Nat.zero_add];rw [if_pos (by omega),if_pos (by omega)]
abbrev Pc:=S89
abbrev Ky:=S39
def Sm (ps:List Pc):Prop:=∀ p ∈ ps,p.f0.size≤65536
theorem Sm.head {p:Pc} {ps:List Pc} (h:Sm (p :: ps)):p.f0.size≤65536:=h p (List.mem_cons_self ..)
theorem Sm.tail {p:Pc} {ps:List Pc} (h:Sm (p :: ps)):Sm ps:=fun q hq=>h q (List.mem_cons_of_mem _ hq)
theorem Sm.nil:Sm []:=fun _ h=>by cases h
theorem small_now {ps:List Pc} (h:Sm ps):(nowT ps).size<9223372036854775807:=by
 cases ps with
 |nil=>show 0<9223372036854775807;omega
 |cons p ps=>have:=h.head;show p.f0.size<_;omega
theorem lowerF (s:ByteArray) (hs:s.size≤65536):tag_lower.f s=some (low s):=lower_f s (by omega)
def varsP:List Pc→List ByteArray→Int×List Pc×List ByteArray
 |[],vs=>(0,[],vs)
 |p :: ps,vs=>if vart (L p.f0)=true then(if Lib.containsS vs (low p.f0)=true then(6,p :: ps,vs) else if vs.length=64 then(5,p :: ps,vs) else varsP ps (vs++[low p.f0])) else(0,p :: ps,vs)
theorem vart_nil:vart (L (⟨#[]⟩:ByteArray))=false:=rfl
theorem vars_f:∀ (ps:List Pc) (vs:List ByteArray),Sm ps→vs.length≤64→Ev (fun k=>varsF k ps vs) (varsP ps vs)
 |[],vs,h,hv=>by
  simp only [varsF,varsP];refine Ev.bind (variant_f ⟨#[]⟩ (by show 0<9223372036854775807;omega)) ?_
  rw [vart_nil];simpa using Ev.now _
 | p :: ps,vs,h,hv=>by
  simp only [varsF,varsP];refine Ev.bind (variant_f p.f0 (by have:=h.head;omega)) ?_
  cases hp:vart (L p.f0) with
  |false=>simpa using Ev.now _
  | true=>
   simp only [if_true];rw [lowerF _ h.head];simp only [Option.bind_some];unfold slices_Contains_string_string.f;rw [if_pos (by omega)]
   simp only [Option.bind_some];by_cases hm:Lib.containsS vs (low p.f0)=true
   ·simp only [if_pos hm];exact Ev.now _
   ·simp only [if_neg hm]
    by_cases h64:vs.length=64
    ·simp only [if_pos h64];exact Ev.now _
    ·simp only [if_neg h64,if_pos (show vs.length<8796093022208 by omega)]
     exact vars_f ps _ h.tail (by simp;omega)
theorem varsP_len:∀ (ps:List Pc) (vs:List ByteArray),vs.length≤64→(varsP ps vs).2.2.length≤64
 |[],vs,hv=>hv
 | p :: ps,vs,hv=>by
  simp only [varsP];split
  ·split
   ·exact hv
   ·split
    ·exact hv
    ·exact varsP_len ps _ (by simp;omega)
  ·exact hv
theorem varsP_sm:∀ (ps:List Pc) (vs:List ByteArray),Sm ps→Sm (varsP ps vs).2.1∧(varsP ps vs).2.1.length≤ps.length
 |[],vs,h=>⟨h,Nat.le_refl _⟩
 | p :: ps,vs,h=>by
  simp only [varsP];split
  ·split
   ·exact ⟨h,Nat.le_refl _⟩
   ·split
    ·exact ⟨h,Nat.le_refl _⟩
    ·have:=varsP_sm ps (vs++[low p.f0]) h.tail
     exact⟨this.1,by rw [List.length_cons];omega⟩
  ·exact ⟨h,Nat.le_refl _⟩
def valsP:List Pc→List ByteArray→List Pc×List ByteArray
 |[],v=>([],v)
 |p :: ps,v=>if sgns (L p.f0) 3 8=true then valsP ps (v++[low p.f0]) else(p :: ps,v)
theorem vals_f:∀ (ps:List Pc) (v:List ByteArray),Sm ps→v.length+ps.length<8796093022208→Ev (fun k=>keyvF k ps v) (valsP ps v)
 |[],v,h,hv=>by
  simp only [keyvF,valsP];refine Ev.bind (signs_f ⟨#[]⟩ 3 8 (by show 0<9223372036854775807;omega)) ?_
  rw [show sgns (L (⟨#[]⟩:ByteArray)) 3 8=false from rfl]
  simpa using Ev.now _
 | p :: ps,v,h,hv=>by
  simp only [keyvF,valsP];refine Ev.bind (signs_f p.f0 3 8 (by have:=h.head;omega)) ?_
  cases hp:sgns (L p.f0) 3 8 with
  |false=>simpa using Ev.now _
  |true=>
   simp only [if_true];rw [lowerF _ h.head];simp only [Option.bind_some];rw [List.length_cons] at hv;simp only [if_pos (show v.length<8796093022208 by omega)]
   exact vals_f ps _ h.tail (by simp;omega)
theorem valsP_sm:∀ (ps:List Pc) (v:List ByteArray),Sm ps→Sm (valsP ps v).1∧(valsP ps v).1.length≤ps.length∧(valsP ps v).2.length≤v.length+ps.length
 |[],v,h=>⟨h,Nat.le_refl _,Nat.le_refl _⟩
 | p :: ps,v,h=>by
  simp only [valsP];split
  ·have:=valsP_sm ps (v++[low p.f0]) h.tail
   simp only [List.length_append,List.length_cons,List.length_nil] at this ⊢;exact⟨this.1,by omega,by omega⟩
  ·exact ⟨h,Nat.le_refl _,by simp only [];omega⟩
theorem valsP_le:∀ (ps:List Pc) (v:List ByteArray),Sm ps→(∀ x ∈ v,x.size≤65536)→∀ x ∈ (valsP ps v).2,x.size≤65536
 |[],v,h,hv=>hv
 | p :: ps,v,h,hv=>by
  simp only [valsP];split
  ·refine valsP_le ps _ h.tail (fun x hx=>?_)
   rcases List.mem_append.1 hx with hx|hx
   ·exact hv x hx
   ·obtain rfl:x=low p.f0:=by simpa using hx
    rw [low_size];exact h.head
  ·exact hv
def joinD (v:List ByteArray):ByteArray:=S (Lib.join (v.map L) [45])
theorem joinD_len:∀ (v:List ByteArray),(∀ x ∈ v,x.size≤65536)→(Lib.join (v.map L) [45]).length≤v.length*65537
 |[],_=>by simp [Lib.join]
 |[a],h=>by
  have:=h a (by simp)
  simp [Lib.join];omega
 | a :: b :: r,h=>by
  have ih:=joinD_len (b :: r) (fun x hx=>h x (List.mem_cons_of_mem _ hx));have ha:=h a (by simp)
  have:Lib.join ((a :: b :: r).map L) [45]=L a++[45]++Lib.join ((b :: r).map L) [45]:=by
   simp [Lib.join,List.intercalate]
  rw [this,List.length_append,List.length_append,L_len];simp only [List.length_cons,List.length_nil] at ih ⊢;omega
theorem join_f (v:List ByteArray) (hv:∀ x ∈ v,x.size≤65536) (hl:v.length≤65537):strings_Join.f v ⟨#[45]⟩=some (joinD v):=by
 have:=joinD_len v hv;have e:v.length*65537≤65537*65537:=Nat.mul_le_mul_right _ hl;unfold strings_Join.f;rw [if_pos (by omega)]
 have e2:(Lib.join (v.map (·.data.toList)) (⟨#[45]⟩:ByteArray).data.toList)=Lib.join (v.map L) [45]:=rfl
 rw [e2,if_pos (by omega)]
 rfl
def keysP:Nat→List Pc→List Ky→Int×List Pc×List Ky
 |0,ps,ks=>(0,ps,ks)
 |_+1,[],ks=>(0,[],ks)
 |n+1,p :: ps,ks=>if sgns (L p.f0) 2 2=true then(if hasName ks (low p.f0)=true then(6,p :: ps,ks) else if ks.length=64 then(5,p :: ps,ks) else keysP n (valsP ps []).1 (ks++[⟨low p.f0,keptVal (joinD (valsP ps []).2)⟩])) else(0,p :: ps,ks)
theorem keys_f:∀ (n:Nat) (ps:List Pc) (ks:List Ky),Sm ps→ps.length<n→ps.length≤65537→ks.length≤64→∃ K,∀ k,K≤k→∀ m,n≤m→keysF k m ps ks=some (keysP n ps ks)
 |0,ps,ks,h,hn,_,_=>by omega
 |n+1,[],ks,h,hn,hp,hk=>by
  obtain⟨K,hK⟩:=signs_f ⟨#[]⟩ 2 2 (by show 0<9223372036854775807;omega)
  refine⟨K,fun k hk m hm=>?_⟩;obtain⟨m,rfl⟩:∃ q,m=q+1:=⟨m - 1,by omega⟩
  simp only [keysF,keysP];have:=hK k hk;simp only at this;rw [show ((2:Nat):Int)=2 from rfl] at this
  rw [this];rfl
 | n +1,p :: ps,ks,h,hn,hp,hk=>by
  rw [List.length_cons] at hn hp;obtain⟨K,hK⟩:=signs_f p.f0 2 2 (by have:=h.head;omega)
  have hvs:=valsP_sm ps [] h.tail;have hvl:=valsP_le ps [] h.tail (by simp)
  obtain⟨K2,hK2⟩:=vals_f ps [] h.tail (by simp;omega)
  by_cases hrec:sgns (L p.f0) 2 2=true∧hasName ks (low p.f0)=false∧ks.length≠64
  ·obtain ⟨h1,h2,h3⟩:=hrec
   obtain⟨K3,hK3⟩:=keys_f n (valsP ps []).1 (ks++[⟨low p.f0,keptVal (joinD (valsP ps []).2)⟩]) hvs.1 (by omega) (by omega) (by simp;omega)
   refine⟨K+K2+K3,fun k hk m hm=>?_⟩;obtain⟨m,rfl⟩:∃ q,m=q+1:=⟨m - 1,by omega⟩
   simp only [keysF,keysP];have e1:=hK k (by omega)
   have e2:=hK2 k (by omega)
   simp only at e1 e2;rw [show ((2:Nat):Int)=2 from rfl] at e1
   rw [e1,h1];simp only [Option.bind_some,if_true];rw [lowerF _ h.head];simp only [Option.bind_some,h2,Bool.false_eq_true,if_false,h3];rw [e2];simp only [Option.bind_some];rw [join_f _ hvl (by simp at hvs;omega)]
   simp only [Option.bind_some];rw [if_pos (by omega)]
   exact hK3 k (by omega) m (by omega)
  ·refine ⟨K,fun k hk m hm=>?_⟩
   obtain⟨m,rfl⟩:∃ q,m=q+1:=⟨m - 1,by omega⟩
   simp only [keysF,keysP];have e1:=hK k (by omega)
   simp only at e1;rw [show ((2:Nat):Int)=2 from rfl] at e1
   rw [e1];cases h1:sgns (L p.f0) 2 2 with
   |false=>simp
   | true=>
    simp only [Option.bind_some,if_true];rw [lowerF _ h.head];simp only [Option.bind_some];cases h2:hasName ks (low p.f0) with
    |true=>simp
    |false=>
     have h3:ks.length=64:=Classical.byContradiction fun h3=>hrec ⟨h1,h2,h3⟩;simp [h3]
theorem keysP_len:∀ (n:Nat) (ps:List Pc) (ks:List Ky),ks.length≤64→(keysP n ps ks).2.2.length≤64
 |0,ps,ks,hk=>hk
 |n+1,[],ks,hk=>hk
 | n+1,p :: ps,ks,hk=>by
  simp only [keysP];split
  ·split
   ·exact hk
   ·split
    ·exact hk
    ·exact keysP_len n _ _ (by simp;omega)
  ·exact hk
abbrev E:ByteArray:=⟨#[]⟩
abbrev Hd:=Bool×List Pc×ByteArray×ByteArray×ByteArray
def headRP (ps:List Pc) (l s:ByteArray):Hd:=if regn (L (nowT ps))=true then(true,ps.tail,l,s,upp (nowT ps)) else(true,ps,l,s,E)
def headSP (ps:List Pc) (l:ByteArray):Hd:=if lets (L (nowT ps)) 4 4=true then headRP ps.tail l (titl (nowT ps)) else headRP ps l E
def headP (ps:List Pc):Hd:=if lets (L (nowT ps)) 2 3=true then headSP ps.tail (keptLang (low (nowT ps))) else(false,ps,E,E,E)
theorem Sm.tl {ps:List Pc} (h:Sm ps):Sm ps.tail:=by
 cases ps with
 |nil=>exact h
 |cons p ps=>exact h.tail
theorem lets_pos {l:Bs} {lo hi:Nat} (h:lets l lo hi=true):lo≤l.length∧l.length≤hi:=by
 unfold lets at h;simp only [Bool.and_eq_true,decide_eq_true_eq] at h;exact h.2
theorem sgns_pos {l:Bs} {lo hi:Nat} (h:sgns l lo hi=true):lo≤l.length∧l.length≤hi:=by
 unfold sgns at h;simp only [Bool.and_eq_true,decide_eq_true_eq] at h;exact h.2
theorem headR_f (ps:List Pc) (l s:ByteArray) (h:Sm ps):Ev (fun k=>headR k ps l s) (headRP ps l s):=by
 unfold headR headRP;refine Ev.bind (region_f (nowT ps) (small_now h)) ?_;cases hr:regn (L (nowT ps)) with
 |false=>simpa using Ev.now _
 | true=>
  cases ps with
  |nil=>exact absurd hr (by decide)
  |cons q pt=>
   simp only [if_true];rw [upper_f _ (by have:=h.head;omega)]
   exact Ev.now _
theorem headS_f (ps:List Pc) (l:ByteArray) (h:Sm ps):Ev (fun k=>headS k ps l) (headSP ps l):=by
 unfold headS headSP;refine Ev.bind (letters_f (nowT ps) 4 4 (small_now h)) ?_;cases hr:lets (L (nowT ps)) 4 4 with
 |false=>simpa using headR_f ps l E h
 | true=>
  cases ps with
  |nil=>exact absurd hr (by decide)
  |cons q pt=>
   have hl:4≤q.f0.size:=by have:=(lets_pos hr).1;rw [L_len] at this;exact this
   simp only [if_true];rw [title_f _ (by have:=h.head;omega) (by omega)]
   exact headR_f pt l (titl q.f0) h.tail
theorem head_f (ps:List Pc) (h:Sm ps):Ev (fun k=>headF k ps) (headP ps):=by
 unfold headF headP;refine Ev.bind (letters_f (nowT ps) 2 3 (small_now h)) ?_;cases hr:lets (L (nowT ps)) 2 3 with
 |false=>simpa using Ev.now _
 | true=>
  cases ps with
  |nil=>exact absurd hr (by decide)
  |cons q pt=>
   simp only [if_true];rw [lowerF _ h.head];exact headS_f pt _ h.tail
theorem headP_sm (ps:List Pc) (h:Sm ps):Sm (headP ps).2.1∧(headP ps).2.1.length≤ps.length:=by
 have hr:∀ (qs:List Pc) (l s:ByteArray),Sm qs→Sm (headRP qs l s).2.1∧(headRP qs l s).2.1.length≤qs.length:=by
  intro qs l s hq;unfold headRP;split
  ·exact ⟨hq.tl,by simp only [List.length_tail];omega⟩
  ·exact ⟨hq,Nat.le_refl _⟩
 have hs:∀ (qs:List Pc) (l:ByteArray),Sm qs→Sm (headSP qs l).2.1∧(headSP qs l).2.1.length≤qs.length:=by
  intro qs l hq;unfold headSP;split
  ·have:=hr qs.tail l (titl (nowT qs)) hq.tl
   rw [List.length_tail] at this;exact⟨this.1,by omega⟩
  ·exact hr _ _ _ hq
 unfold headP;split
 ·have:=hs ps.tail (keptLang (low (nowT ps))) h.tl
  rw [List.length_tail] at this;exact⟨this.1,by omega⟩
 ·exact ⟨h,Nat.le_refl _⟩
def readUP (en:Int) (rest:List Pc) (l s r:ByteArray) (vs:List ByteArray):ReadRes:=match rest with
 |[]=>(0,0,some (l,s,r,vs,[]))
 |p :: pt=>if (low p.f0).toList=[117] then(if (keysP (pt.length+1) pt []).1=0 then(if (keysP (pt.length+1) pt []).2.2.length=0 then(nowAt en (keysP (pt.length+1) pt []).2.1,70,none) else readEnd en (keysP (pt.length+1) pt []).2.1 (l,s,r,vs,(keysP (pt.length+1) pt []).2.2)) else(nowAt en (keysP (pt.length+1) pt []).2.1,(keysP (pt.length+1) pt []).1,none)) else(p.f1,70,none)
def readP (ps:List Pc) (en:Int):ReadRes:=
 if (headP ps).1=true then(if (varsP (headP ps).2.1 []).1=0 then readUP en (varsP (headP ps).2.1 []).2.1 (headP ps).2.2.1 (headP ps).2.2.2.1 (headP ps).2.2.2.2 (varsP (headP ps).2.1 []).2.2 else(nowAt en (varsP (headP ps).2.1 []).2.1,(varsP (headP ps).2.1 []).1,none)) else(nowAt en (headP ps).2.1,70,none)
theorem readU_f (en:Int) (rest:List Pc) (l s r:ByteArray) (vs:List ByteArray) (h:Sm rest) (hl:rest.length≤65537):Ev (fun k=>readU k k en rest l s r vs) (readUP en rest l s r vs):=by
 cases rest with
 |nil=>exact Ev.now _
 | cons p pt=>
  simp only [readU,readUP];rw [lowerF _ h.head];simp only [Option.bind_some];by_cases hu:(low p.f0).toList=[117]
  ·simp only [if_pos hu]
   rw [List.length_cons] at hl;obtain⟨K,hK⟩:=keys_f (pt.length+1) pt [] h.tail (by omega) (by omega) (by simp)
   refine⟨K+pt.length+1,fun k hk=>?_⟩;show(keysF k k pt []).bind _=_;rw [hK k (by omega) k (by omega)]
   simp only [Option.bind_some];by_cases h0:(keysP (pt.length+1) pt []).1=0
   ·rw [if_pos h0,if_pos h0]
    by_cases h1:(keysP (pt.length+1) pt []).2.2.length=0
    ·rw [if_pos h1,if_pos h1]
    ·rw [if_neg h1,if_neg h1]
   ·rw [if_neg h0,if_neg h0]
  ·simp only [if_neg hu];exact Ev.now _
theorem read_f (ps:List Pc) (en:Int) (h:Sm ps) (hl:ps.length≤65537):Ev (fun k=>readF k k ps en) (readP ps en):=by
 have hh:=headP_sm ps h;have hv:=varsP_sm (headP ps).2.1 [] hh.1;unfold readF readP;refine Ev.bind (head_f ps h) ?_;by_cases hb:(headP ps).1=true
 ·simp only [if_pos hb]
  refine Ev.bind (vars_f _ [] hh.1 (by simp)) ?_
  by_cases h0:(varsP (headP ps).2.1 []).1=0
  ·simp only [if_pos h0]
   exact readU_f en _ _ _ _ _ hv.1 (by omega)
  ·simp only [if_neg h0];exact Ev.now _
 ·simp only [if_neg hb];exact Ev.now _
theorem readP_len (ps:List Pc) (en:Int):∀ t,(readP ps en).2.2=some t→t.2.2.2.1.length≤64∧t.2.2.2.2.length≤64:=by
 intro t ht;have hv:=varsP_len (headP ps).2.1 [] (by simp)
 unfold readP at ht;by_cases hb:(headP ps).1=true
 ·rw [if_pos hb] at ht
  by_cases h0:(varsP (headP ps).2.1 []).1=0
  ·rw [if_pos h0] at ht
   unfold readUP at ht;split at ht
   ·obtain rfl:=Option.some.inj ht
    exact⟨hv,by simp⟩
   ·rename_i p pt _
    have hk:=keysP_len (pt.length+1) pt [] (by simp)
    by_cases hu:(low p.f0).toList=[117]
    ·rw [if_pos hu] at ht
     by_cases h1:(keysP (pt.length+1) pt []).1=0
     ·rw [if_pos h1] at ht
      by_cases h2:(keysP (pt.length+1) pt []).2.2.length=0
      ·rw [if_pos h2] at ht;cases ht
      ·rw [if_neg h2] at ht
       unfold readEnd at ht;split at ht
       ·obtain rfl:=Option.some.inj ht
        exact⟨hv,hk⟩
       ·cases ht
     ·rw [if_neg h1] at ht;cases ht
    ·rw [if_neg hu] at ht;cases ht
  ·rw [if_neg h0] at ht;cases ht
 ·rw [if_neg hb] at ht;cases ht
abbrev PRes:=ByteArray×ByteArray×ByteArray×List ByteArray×List Ky×Int×Int
def parseP (s:ByteArray):PRes:=if s.size>65536 then(E,E,E,[],[],0,2) else if (low s).toList=[114,111,111,116] then(E,E,E,[],[],0,0) else parseRes (readP (pieces s) (s.size:Int))
theorem pieces_sm (s:ByteArray) (hs:s.size≤65536):Sm (pieces s)∧(pieces s).length≤65537:=by
 refine⟨fun p hp=>Nat.le_trans (pcs_small s _ _ _ p hp) hs,?_⟩;have:=pcs_len s s.size 0 0;unfold pieces;omega
theorem parse_f (s:ByteArray):Ev (fun k=>tag_Parse.f k s) (parseP s):=by
 unfold tag_Parse.f parseP;by_cases h1:s.size>65536
 ·simp only [if_pos h1];exact Ev.now _
 ·simp only [if_neg h1]
  rw [lowerF _ (by omega)]
  simp only [Option.bind_some];by_cases h2:(low s).toList=[114,111,111,116]
  ·simp only [if_pos h2];exact Ev.now _
  ·simp only [if_neg h2]
   have hp:=pieces_sm s (by omega)
   refine Ev.bind (split_f s (by omega)) ?_
   simp only [if_pos (show(pieces s).length<4611686018427387904 by omega)]
   refine Ev.bind (read_f _ _ hp.1 hp.2) ?_;have hlen:=readP_len (pieces s) (s.size:Int);refine Ev.bind (a:=()) ?_ (Ev.now _);cases hr:(readP (pieces s) (s.size:Int)).2.2 with
   |none=>exact Ev.now _
   |some t=>
    have:=hlen t hr;simp only [if_pos (show t.2.2.2.1.length<4611686018427387904∧t.2.2.2.2.length<4611686018427387904 by omega)]
    exact Ev.now _
def printP (l s r:ByteArray) (V:List ByteArray) (K:List Ke):ByteArray×Int:=
 if checkP l s r V K=0 then(if (joinT (parts l s r V K)).size≤65536 then(joinT (parts l s r V K),0) else(⟨#[]⟩,2)) else(⟨#[]⟩,checkP l s r V K)
theorem print_f {l s r:ByteArray} {V:List ByteArray} {K:List Ke} (z:Sz l s r V K):Ev (fun k=>tag_Print.f k l s r V K) (printP l s r V K):=by
 unfold tag_Print.f printP;refine Ev.bind (check_f z) ?_;by_cases h:checkP l s r V K=0
 ·obtain ⟨h1,h2⟩:=checkP_few h
  simp only [if_pos h];refine Ev.bind (text_f z h1 h2) ?_;by_cases h3:(joinT (parts l s r V K)).size≤65536
  ·simp only [if_pos h3,if_neg (show ¬ (((joinT (parts l s r V K)).size:Int)>65536) by omega)];exact Ev.now _
  ·simp only [if_neg h3,if_pos (show(((joinT (parts l s r V K)).size:Int)>65536) by omega)];exact Ev.now _
 ·simp only [if_neg h];exact Ev.now _
theorem awake_f1:Ev (fun k=>l7_awake.f k) true:=by
 unfold l7_awake.f;refine Ev.bind (parse_f _) ?_;have e:parseP ⟨#[69,78,95,117,115]⟩=(⟨#[101,110]⟩,⟨#[]⟩,⟨#[85,83]⟩,[],[],0,0):=by kernel_rfl
 rw [e];refine Ev.bind (print_f ⟨by decide,by decide,by decide,by simp,by simp,by simp,by simp⟩) ?_
 have e2:printP ⟨#[101,110]⟩ ⟨#[]⟩ ⟨#[85,83]⟩ [] []=(⟨#[101,110,45,85,83]⟩,0):=by kernel_rfl
 rw [e2];refine Ev.congr (f:=fun _=>some true) (fun k=>(if_pos rfl).trans ((if_pos rfl).trans ?_)) (Ev.now _);rw [toList_L];rfl
def Cl (l:Bs):Prop:=∀ c ∈ l,isS c=true
set_option maxRecDepth 100000 in
theorem isS_not (c:UInt8):(isS c=true→sepB c=false∧c≠45)∧(isL c=true→isS c=true)∧(isD c=true→isS c=true):=
 all_u8 (p:=fun c=>(isS c=true→sepB c=false∧c≠45)∧(isL c=true→isS c=true)∧(isD c=true→isS c=true)) (by decide +kernel) c
theorem cl_lets {l:Bs} {a b:Nat} (h:lets l a b=true):Cl l:=by
 unfold lets at h;simp only [Bool.and_eq_true,List.all_eq_true] at h;exact fun c hc=>(isS_not c).2.1 (h.1 c hc)
theorem cl_sgns {l:Bs} {a b:Nat} (h:sgns l a b=true):Cl l:=by
 unfold sgns at h;simp only [Bool.and_eq_true,List.all_eq_true] at h;exact h.1
theorem cl_regn {l:Bs} (h:regn l=true):Cl l:=by
 unfold regn at h;rcases Bool.or_eq_true .. |>.mp h with h|h
 ·exact cl_lets h
 ·unfold nums at h
  simp only [Bool.and_eq_true,List.all_eq_true] at h;exact fun c hc=>(isS_not c).2.2 (h.1 c hc)
theorem cl_vart {l:Bs} (h:vart l=true):Cl l:=by
 unfold vart at h;rcases Bool.or_eq_true .. |>.mp h with h|h
 ·exact cl_sgns h
 ·exact cl_sgns (Bool.and_eq_true .. |>.mp h).1
def cutS:Bs→List Bs
 |[]=>[[]]
 |x :: l=>if sepB x=true then[] :: cutS l else(match cutS l with|[]=>[[x]]|h :: t=>(x :: h) :: t)
theorem cutS_ne:∀ l:Bs,∃ h t,cutS l=h :: t
 |[]=>⟨_,_,rfl⟩
 |x :: l=>by
  obtain⟨h,t,e⟩:=cutS_ne l;unfold cutS;rw [e];split
  ·exact ⟨_,_,rfl⟩
  ·exact ⟨_,_,rfl⟩
theorem glueS_nil (l:Bs):glue [] (cutS l)=cutS l:=by
 obtain⟨h,t,e⟩:=cutS_ne l;rw [e];rfl
def T (ps:List Pc):List Bs:=ps.map fun p=>L p.f0
theorem pcs_cut (s:ByteArray):∀ (d i b:Nat),s.size - i=d→i≤s.size→b≤i→T (pcs s d i b)=glue (((L s).take i).drop b) (cutS ((L s).drop i)):=by
 intro d;induction d with
 |zero=>
  intro i b hd hi hb;have e:(L s).drop i=[]:=List.drop_eq_nil_of_le (by rw [L_len];omega)
  rw [e];show [L (s.extract b i)]=[((L s).take i).drop b++[]];rw [L_ext,List.append_nil]
 | succ d ih=>
  intro i b hd hi hb;have hlt:i<(L s).length:=by rw [L_len];omega
  have hg:(L s).getD i 0=(L s)[i]:=by rw [List.getD_eq_getElem?_getD,List.getElem?_eq_getElem hlt];rfl
  have e:(L s).drop i=(L s)[i] :: (L s).drop (i+1):=List.drop_eq_getElem_cons hlt;rw [e];unfold pcs cutS;rw [hg];by_cases hc:sepB (L s)[i]=true
  ·rw [if_pos hc,if_pos hc]
   have e2:((L s).take (i+1)).drop (i+1)=[]:=List.drop_eq_nil_of_le (by rw [List.length_take];omega)
   have ih':=ih (i+1) (i+1) (by omega) (by omega) (Nat.le_refl _)
   rw [e2,glueS_nil] at ih';show L (s.extract b i) :: T (pcs s d (i+1) (i+1))=(((L s).take i).drop b++[]) :: _;rw [ih',L_ext,List.append_nil]
  ·rw [if_neg hc,if_neg hc,ih (i+1) b (by omega) (by omega) (by omega)]
   rw [List.take_succ_eq_append_getElem hlt,List.drop_append_of_le_length (by rw [List.length_take];omega)]
   obtain⟨h,t,e3⟩:=cutS_ne ((L s).drop (i+1));rw [e3];show(((L s).take i).drop b++[(L s)[i]]++h) :: t=(((L s).take i).drop b++((L s)[i] :: h)) :: t;rw [List.append_assoc];rfl
theorem pieces_cut (s:ByteArray):T (pieces s)=cutS (L s):=by
 unfold pieces;rw [pcs_cut s s.size 0 0 (by omega) (by omega) (Nat.le_refl _)]
 exact glueS_nil _
theorem cutS_cons (x:UInt8) (l:Bs):cutS (x :: l)=if sepB x=true then[] :: cutS l else(match cutS l with|[]=>[[x]]|h :: t=>(x :: h) :: t):=rfl
theorem cutS_clean:∀ {l:Bs},Cl l→cutS l=[l]
 |[],_=>rfl
 |x :: l,h=>by
  have hx:=((isS_not x).1 (h x (List.mem_cons_self ..))).1;unfold cutS;rw [if_neg (by rw [hx];simp),cutS_clean (fun c hc=>h c (List.mem_cons_of_mem _ hc))]
theorem cutS_dash:∀ {a:Bs} (r:Bs),Cl a→cutS (a++45 :: r)=a :: cutS r
 |[],r,_=>by
  show cutS (45 :: r)=_;rw [cutS_cons 45 r,if_pos (by decide)]
 |x :: a,r,h=>by
  have hx:=((isS_not x).1 (h x (List.mem_cons_self ..))).1;rw [List.cons_append,cutS_cons x (a++45 :: r),if_neg (by rw [hx];simp),cutS_dash r (fun c hc=>h c (List.mem_cons_of_mem _ hc))]
theorem join_two (a b:Bs) (r:List Bs):Lib.join (a :: b :: r) [45]=a++45 :: Lib.join (b :: r) [45]:=by
 simp [Lib.join,List.intercalate]
theorem cutS_join:∀ (a:Bs) (r:List Bs),(∀ x ∈ a :: r,Cl x)→cutS (Lib.join (a :: r) [45])=a :: r
 |a,[],h=>by rw [Lib.join_one];exact cutS_clean (h a (by simp))
 |a,b :: r,h=>by rw [join_two,cutS_dash _ (h a (by simp)),cutS_join b r (fun x hx=>h x (List.mem_cons_of_mem _ hx))]
theorem cutL_clean:∀ {l:Bs},Cl l→cutL 45 l=[l]
 |[],_=>rfl
 |x :: l,h=>by
  have hx:=((isS_not x).1 (h x (List.mem_cons_self ..))).2;unfold cutL;rw [if_neg hx,cutL_clean (fun c hc=>h c (List.mem_cons_of_mem _ hc))]
theorem join_cutL:∀ l:Bs,Lib.join (cutL 45 l) [45]=l
 |[]=>rfl
 | x :: l=>by
  have ih:=join_cutL l;obtain⟨h,t,e⟩:=cutL_ne 45 l;unfold cutL;by_cases hx:x=45
  ·rw [if_pos hx,e,join_two,← e,ih,hx];rfl
  ·rw [if_neg hx,e]
   rw [e] at ih;cases t with
   |nil=>rw [Lib.join_one] at ih ⊢;rw [ih]
   |cons b t=>
    show Lib.join ((x :: h) :: b :: t) [45]=_;rw [join_two] at ih ⊢;rw [List.cons_append,ih]
theorem join_app:∀ (a:List Bs) (b:Bs) (r:List Bs),a≠[]→Lib.join (a++b :: r) [45]=Lib.join a [45]++45 :: Lib.join (b :: r) [45]
 |[],_,_,h=>absurd rfl h
 |[x],b,r,_=>by rw [Lib.join_one];exact join_two x b r
 |x :: y :: a,b,r,_=>by
  have ih:=join_app (y :: a) b r (by simp)
  show Lib.join (x :: y :: (a++b :: r)) [45]=_;rw [join_two,join_two,List.append_assoc,List.cons_append];have e:y :: (a++b :: r)=y :: a++b :: r:=rfl;rw [e,ih]
def cutAll (ps:List ByteArray):List Bs:=ps.flatMap fun x=>cutL 45 (L x)
theorem join_cutAll:∀ ps:List ByteArray,Lib.join (cutAll ps) [45]=Lib.join (ps.map L) [45]
 |[]=>rfl
 |[x]=>by
  show Lib.join (cutL 45 (L x)++[]) [45]=Lib.join [L x] [45];rw [List.append_nil,join_cutL,Lib.join_one]
 |x :: y :: r=>by
  have ih:=join_cutAll (y :: r);obtain⟨h,t,e⟩:=cutL_ne 45 (L y);have e2:cutAll (y :: r)=h :: (t++cutAll r):=by unfold cutAll;rw [List.flatMap_cons,e];rfl
  obtain⟨h',t',e'⟩:=cutL_ne 45 (L x);have e3:cutAll (x :: y :: r)=cutL 45 (L x)++cutAll (y :: r):=rfl;rw [e3,e2,join_app _ _ _ (by rw [e'];simp),← e2,ih,join_cutL]
  show _=Lib.join (L x :: L y :: r.map L) [45];rw [join_two];rfl
theorem pieces_join (a:ByteArray) (r:List ByteArray) (h:∀ x ∈ cutAll (a :: r),Cl x):T (pieces (joinT (a :: r)))=cutAll (a :: r):=by
 rw [pieces_cut];unfold joinT;rw [LS,← join_cutAll];obtain⟨h',t',e'⟩:=cutL_ne 45 (L a);have e:cutAll (a :: r)=h' :: (t'++cutAll r):=by unfold cutAll;rw [List.flatMap_cons,e'];rfl
 rw [e] at h ⊢;exact cutS_join _ _ h
set_option maxRecDepth 100000 in
theorem lowB_cls (c:UInt8):lowB (lowB c)=lowB c∧upB (lowB c)=upB c∧isL (lowB c)=isL c∧isD (lowB c)=isD c∧sepB (lowB c)=sepB c:=
 all_u8 (p:=fun c=>lowB (lowB c)=lowB c∧upB (lowB c)=upB c∧isL (lowB c)=isL c∧isD (lowB c)=isD c∧sepB (lowB c)=sepB c) (by decide +kernel) c
theorem isS_low (c:UInt8):isS (lowB c)=isS c:=by unfold isS;rw [(lowB_cls c).2.2.1,(lowB_cls c).2.2.2.1]
theorem L_low (s:ByteArray):L (low s)=(L s).map lowB:=by unfold low;rw [LS]
theorem all_low (l:Bs) (p:UInt8→Bool) (h:∀ c,p (lowB c)=p c):(l.map lowB).all p=l.all p:=by
 induction l with
 |nil=>rfl
 |cons c l ih=>simp only [List.map_cons,List.all_cons,h,ih]
theorem lets_low (s:ByteArray) (a b:Nat):lets (L (low s)) a b=lets (L s) a b:=by
 unfold lets;rw [L_low,all_low _ _ (fun c=>(lowB_cls c).2.2.1),List.length_map]
theorem sgns_low (s:ByteArray) (a b:Nat):sgns (L (low s)) a b=sgns (L s) a b:=by
 unfold sgns;rw [L_low,all_low _ _ isS_low,List.length_map]
theorem vart_low (s:ByteArray):vart (L (low s))=vart (L s):=by
 unfold vart;rw [sgns_low,sgns_low,L_low];cases L s with
 |nil=>rfl
 |cons c l=>simp only [List.map_cons,List.headD_cons,(lowB_cls c).2.2.2.1]
theorem low_low (s:ByteArray):low (low s)=low s:=by
 apply L_inj;rw [L_low,L_low,List.map_map];congr 1;funext c;exact(lowB_cls c).1
theorem L_upp (s:ByteArray):L (upp s)=(L s).map upB:=by unfold upp;rw [LS]
def ins {α:Type} (lt:α→α→Bool) (x:α):List α→List α
 |[]=>[x]
 |y :: ys=>if lt x y=true then x :: y :: ys else y :: ins lt x ys
def isrt {α:Type} (lt:α→α→Bool) (l:List α):List α:=l.foldl (fun a x=>ins lt x a) []
theorem isrt_snoc {α:Type} (lt:α→α→Bool) (l:List α) (x:α):isrt lt (l++[x])=ins lt x (isrt lt l):=by
 unfold isrt;rw [List.foldl_append];rfl
theorem ins_perm {α:Type} (lt:α→α→Bool) (x:α):∀ l,(ins lt x l).Perm (x :: l)
 |[]=>List.Perm.refl _
 |y :: ys=>by
  unfold ins;by_cases h:lt x y=true
  ·rw [if_pos h]
  ·rw [if_neg h];exact((ins_perm lt x ys).cons y).trans (List.Perm.swap x y ys)
theorem foldl_perm {α:Type} (lt:α→α→Bool):∀ (l a:List α),(l.foldl (fun a x=>ins lt x a) a).Perm (a++l)
 |[],a=>by simp
 |x :: l,a=>by
  refine(foldl_perm lt l (ins lt x a)).trans ?_;refine((ins_perm lt x a).append_right l).trans ?_;exact(List.perm_middle).symm
theorem isrt_perm {α:Type} (lt:α→α→Bool) (l:List α):(isrt lt l).Perm l:=foldl_perm lt l []
theorem isrt_len {α:Type} (lt:α→α→Bool) (l:List α):(isrt lt l).length=l.length:=(isrt_perm lt l).length_eq
theorem isrt_mem {α:Type} (lt:α→α→Bool) (l:List α) (x:α):x ∈ isrt lt l↔x ∈ l:=(isrt_perm lt l).mem_iff
abbrev Asc {α:Type} (lt:α→α→Bool) (l:List α):Prop:=l.Pairwise fun a b=>lt b a=false
theorem asymm_ {α:Type} {lt:α→α→Bool} (h:Go.Sort.SWO lt) {x y:α} (hxy:lt x y=true):lt y x=false:=by
 cases hyx:lt y x with
 |false=>rfl
 |true=>have:=h.trans _ _ _ hxy hyx;rw [h.irrefl] at this;cases this
theorem ins_asc {α:Type} {lt:α→α→Bool} (h:Go.Sort.SWO lt) (x:α):∀ l,Asc lt l→Asc lt (ins lt x l)
 |[],_=>by simp [ins]
 | y :: ys,hl=>by
  unfold ins;obtain⟨h1,h2⟩:=List.pairwise_cons.1 hl;by_cases hxy:lt x y=true
  ·rw [if_pos hxy]
   refine List.pairwise_cons.2 ⟨fun z hz=>?_,hl⟩;rcases List.mem_cons.1 hz with rfl|hz
   ·exact asymm_ h hxy
   ·exact h.ntrans _ _ _ (h1 z hz) (asymm_ h hxy)
  ·rw [if_neg hxy]
   refine List.pairwise_cons.2 ⟨fun z hz=>?_,ins_asc h x ys h2⟩;rcases List.mem_cons.1 ((ins_perm lt x ys).mem_iff.1 hz) with rfl|hz
   ·simpa using hxy
   ·exact h1 z hz
theorem isrt_asc {α:Type} {lt:α→α→Bool} (h:Go.Sort.SWO lt) (l:List α):Asc lt (isrt lt l):=by
 unfold isrt
 suffices ∀ (l a:List α),Asc lt a→Asc lt (l.foldl (fun a x=>ins lt x a) a) from this l [] List.Pairwise.nil
 intro l;induction l with
 |nil=>exact fun a ha=>ha
 |cons x l ih=>exact fun a ha=>ih _ (ins_asc h x a ha)
theorem bless_:∀ (x y:Bs),Op.bytesLess x y=decide (x<y)
 |[],[]=>by simp [Op.bytesLess]
 |_ :: _,[]=>by simp [Op.bytesLess]
 |[],_ :: _=>by simp [Op.bytesLess]
 | a :: x,b :: y=>by
  simp only [Op.bytesLess,bless_ x y,List.cons_lt_cons_iff];by_cases h1:a<b
  ·simp [h1]
  ·by_cases h2:a=b
   ·subst h2;simp
   ·simp [h1,h2]
def ltT (x y:ByteArray):Bool:=Op.bytesLess x.toList y.toList
theorem ltT_eq (x y:ByteArray):ltT x y=decide (L x<L y):=by unfold ltT;rw [bless_,toList_L,toList_L]
theorem swoT:Go.Sort.SWO ltT where
 irrefl x:=by rw [ltT_eq];simp
 trans x y z h1 h2:=by
  rw [ltT_eq] at *;simp only [decide_eq_true_eq] at *;exact List.lt_trans h1 h2
 ntrans x y z h1 h2:=by
  rw [ltT_eq] at *;simp only [decide_eq_false_iff_not] at *;exact List.not_lt.2 (List.le_trans (List.not_lt.1 h2) (List.not_lt.1 h1))
theorem isrt_texts (vs:List ByteArray):isrt ltT vs=sortTexts vs:=by
 refine List.Perm.eq_of_pairwise (le:=fun a b=>ltT b a=false) ?_ (isrt_asc swoT vs) ?_ ?_
 ·intro a b _ _ h1 h2
  simp only [ltT_eq,decide_eq_false_iff_not] at h1 h2;exact L_inj (List.le_antisymm (List.not_lt.1 h1) (List.not_lt.1 h2))
 ·unfold sortTexts
  rw [List.pairwise_map];have:=List.pairwise_mergeSort (le:=fun (x y:Bs)=>decide (x≤y)) (fun a b c h1 h2=>by
   simp only [decide_eq_true_eq] at *;exact List.le_trans h1 h2) (fun a b=>by
   simp only [Bool.or_eq_true,decide_eq_true_eq];exact List.le_total a b) (vs.map (·.data.toList))
  refine this.imp (fun {a b} h=>?_);rw [ltT_eq];simp only [decide_eq_true_eq] at h;simp only [decide_eq_false_iff_not];exact List.not_lt.2 h
 ·refine (isrt_perm ltT vs).trans ?_
  unfold sortTexts;have:=((List.mergeSort_perm (vs.map (·.data.toList)) fun x y=>decide (x≤y)).map fun l=>(⟨l.toArray⟩:ByteArray)).symm
  rw [List.map_map] at this;have e:vs.map ((fun l:List UInt8=>(⟨l.toArray⟩:ByteArray)) ∘ fun x:ByteArray=>x.data.toList)=vs:=by
   refine(List.map_congr_left (fun x _=>?_)).trans (List.map_id vs);exact SL x
  rw [e] at this;exact this
def ltK (x y:Ky):Bool:=Op.bytesLess x.f0.toList y.f0.toList
theorem ltK_eq (x y:Ky):ltK x y=ltOf keyCmp x y:=by unfold ltK;rw [bless_,keyLt,toList_L,toList_L]
theorem ltK_fun:ltK=ltOf keyCmp:=by funext x y;exact ltK_eq x y
def Nm1 (ks:List Ky):Prop:=ks.Pairwise fun a b=>a.f0≠b.f0
theorem nm1_eq {ks:List Ky} (h:Nm1 ks) {a b:Ky} (ha:a ∈ ks) (hb:b ∈ ks) (e:a.f0=b.f0):a=b:=by
 induction ks with
 |nil=>cases ha
 |cons k ks ih=>
  obtain⟨h1,h2⟩:=List.pairwise_cons.1 h;rcases List.mem_cons.1 ha with ea|ha2 <;> rcases List.mem_cons.1 hb with eb|hb2
  ·rw [ea,eb]
  ·rw [ea] at e;exact absurd e (h1 b hb2)
  ·rw [eb] at e;exact absurd e.symm (h1 a ha2)
  ·exact ih h2 ha2 hb2
theorem sortKeys_perm (ks:List Ky):(sortKeys ks).Perm ks:=by
 have h:=(Go.Sort.pdq_sorts (ltOf keyCmp) keySWO ks.toArray 0 ks.length (Lib.bitLen ks.length) true true (Nat.zero_le _) (by simp) (Or.inl rfl)).1
 have h1:=h.1;have h2:=h.2.2;unfold sortKeys;rw [Array.extract_eq_self_of_le (by simp [h1]),Array.extract_eq_self_of_le (by simp)] at h2
 simpa using h2
theorem sortKeys_asc (ks:List Ky):Asc (ltOf keyCmp) (sortKeys ks):=by
 have hh:=Go.Sort.pdq_sorts (ltOf keyCmp) keySWO ks.toArray 0 ks.length (Lib.bitLen ks.length) true true (Nat.zero_le _) (by simp) (Or.inl rfl)
 have h:=hh.2;have hs:=hh.1.1;unfold sortKeys;refine List.pairwise_iff_getElem.2 (fun i j hi hj hij=>?_);have:=h i j (Nat.zero_le _) hij (by simpa [hs] using hj)
 have hi':i<(Go.Sort.pdq (ltOf keyCmp) ks.toArray 0 ks.length (Lib.bitLen ks.length) true true).size:=by simpa using hi
 have hj':j<(Go.Sort.pdq (ltOf keyCmp) ks.toArray 0 ks.length (Lib.bitLen ks.length) true true).size:=by simpa using hj
 rw [getElem!_pos (Go.Sort.pdq (ltOf keyCmp) ks.toArray 0 ks.length (Lib.bitLen ks.length) true true) i hi',getElem!_pos (Go.Sort.pdq (ltOf keyCmp) ks.toArray 0 ks.length (Lib.bitLen ks.length) true true) j hj'] at this;simpa using this
theorem isrt_keys (ks:List Ky) (hk:Nm1 ks):isrt ltK ks=sortKeys ks:=by
 rw [ltK_fun];refine List.Perm.eq_of_pairwise (le:=fun a b=>ltOf keyCmp b a=false) ?_ (isrt_asc keySWO ks) (sortKeys_asc ks) ((isrt_perm _ ks).trans (sortKeys_perm ks).symm);intro a b ha hb h1 h2;rw [isrt_mem] at ha;have hb:=(sortKeys_perm ks).mem_iff.1 hb;simp only [keyLt,decide_eq_false_iff_not] at h1 h2;exact nm1_eq hk ha hb (L_inj (List.le_antisymm (List.not_lt.1 h1) (List.not_lt.1 h2)))
theorem rise_lt {p v:ByteArray} (h:rise (some p) v=0):L p<L v:=by
 rw [rise_some] at h;by_cases h1:p.toList=v.toList
 ·rw [if_pos h1] at h;exact absurd h (by decide)
 ·rw [if_neg h1] at h
  by_cases h2:Op.bytesLess v.toList p.toList=true
  ·rw [if_pos h2] at h;exact absurd h (by decide)
  ·rw [bless_,decide_eq_true_eq,toList_L,toList_L] at h2
   rw [toList_L,toList_L] at h1;by_cases h3:L p<L v
   ·exact h3
   ·exact absurd (List.le_antisymm (List.not_lt.1 h2) (List.not_lt.1 h3)) h1
theorem vc_facts:∀ (V:List ByteArray) (pr:Option ByteArray),vcP pr V=0→(∀ v ∈ V,vart (L v)=true∧low v=v)∧(∀ p,pr=some p→∀ v ∈ V,L p<L v)∧V.Pairwise fun a b=>L a<L b
 |[],_,_=>⟨(fun _ h=>by cases h),(fun _ _ _ h=>by cases h),List.Pairwise.nil⟩
 | v :: vs,pr,h=>by
  unfold vcP at h;by_cases h1:vart (L v)=true
  ·rw [if_pos h1] at h
   by_cases h2:low v=v
   ·rw [if_pos h2] at h
    by_cases h3:rise pr v=0
    ·rw [if_pos h3] at h
     obtain⟨i1,i2,i3⟩:=vc_facts vs (some v) h;have hv:=i2 v rfl;refine⟨fun x hx=>?_,fun p hp x hx=>?_,List.pairwise_cons.2 ⟨hv,i3⟩⟩
     ·rcases List.mem_cons.1 hx with rfl|hx
      ·exact ⟨h1,h2⟩
      ·exact i1 x hx
     ·subst hp
      have:=rise_lt h3;rcases List.mem_cons.1 hx with rfl|hx
      ·exact this
      ·exact List.lt_trans this (hv x hx)
    ·rw [if_neg h3] at h;exact absurd h h3
   ·rw [if_neg h2] at h;exact absurd h (by decide)
  ·rw [if_neg h1] at h;exact absurd h (by decide)
def KOk (x:Ke):Prop:=sgns (L x.f0) 2 2=true∧low x.f0=x.f0∧valP x.f1=true
theorem kc_facts:∀ (K:List Ke) (pr:Option Ke),kcP pr K=0→(∀ x ∈ K,KOk x)∧(∀ p,pr=some p→∀ x ∈ K,L p.f0<L x.f0)∧K.Pairwise fun a b=>L a.f0<L b.f0
 |[],_,_=>⟨(fun _ h=>by cases h),(fun _ _ _ h=>by cases h),List.Pairwise.nil⟩
 | v :: vs,pr,h=>by
  unfold kcP at h;by_cases h1:sgns (L v.f0) 2 2=true
  ·rw [if_pos h1] at h
   by_cases h2:low v.f0=v.f0
   ·rw [if_pos h2] at h
    by_cases h4:valP v.f1=true
    ·rw [if_pos h4] at h
     by_cases h3:rise (pr.map (·.f0)) v.f0=0
     ·rw [if_pos h3] at h
      obtain⟨i1,i2,i3⟩:=kc_facts vs (some v) h;have hv:=i2 v rfl;refine⟨fun x hx=>?_,fun p hp x hx=>?_,List.pairwise_cons.2 ⟨hv,i3⟩⟩
      ·rcases List.mem_cons.1 hx with rfl|hx
       ·exact ⟨h1,h2,h4⟩
       ·exact i1 x hx
      ·subst hp
       have:=rise_lt (p:=p.f0) h3;rcases List.mem_cons.1 hx with rfl|hx
       ·exact this
       ·exact List.lt_trans this (hv x hx)
     ·rw [if_neg h3] at h;exact absurd h h3
    ·rw [if_neg h4] at h;exact absurd h (by decide)
   ·rw [if_neg h2] at h;exact absurd h (by decide)
  ·rw [if_neg h1] at h;exact absurd h (by decide)
theorem T_cons {ps:List Pc} {a:Bs} {r:List Bs} (h:T ps=a :: r):∃ p pt,ps=p :: pt∧L p.f0=a∧T pt=r:=by
 cases ps with
 |nil=>cases h
 |cons p pt=>exact ⟨p,pt,rfl,(List.cons.inj h).1,(List.cons.inj h).2⟩
theorem T_nil {ps:List Pc} (h:T ps=[]):ps=[]:=by
 cases ps with
 |nil=>rfl
 |cons p pt=>cases h
theorem varsP_back:∀ (V:List ByteArray) (rest:List Bs) (acc:List ByteArray) (ps:List Pc),T ps=V.map L++rest→(∀ v ∈ V,vart (L v)=true∧low v=v)→(acc++V).Pairwise (fun a b=>L a<L b)→(acc++V).length≤64→
 (∀ a t,rest=a :: t→vart a=false)→∃ ps',varsP ps acc=(0,ps',acc++V)∧T ps'=rest
 | [],rest,acc,ps,h,_,_,_,hs=>by
  refine⟨ps,?_,h⟩;rw [List.append_nil];cases ps with
  |nil=>rfl
  |cons p pt=>
   have h2:L p.f0 :: T pt=rest:=h;have:=hs _ _ h2.symm;unfold varsP;rw [if_neg (by rw [this];simp)]
 | v :: V,rest,acc,ps,h,hv,hp,hl,hs=>by
  obtain⟨p,pt,rfl,e1,e2⟩:=T_cons h;have e3:p.f0=v:=L_inj e1;have h1:=hv v (List.mem_cons_self ..);have ih:=varsP_back V rest (acc++[v]) pt e2 (fun x hx=>hv x (List.mem_cons_of_mem _ hx)) (by rw [List.append_assoc];exact hp) (by rw [List.append_assoc];exact hl) hs
  rw [List.append_assoc] at ih;have hc:¬ Lib.containsS acc v=true:=by
   rw [Lib.containsS_iff];intro hm;have:=(List.pairwise_append.1 hp).2.2 v hm v (List.mem_cons_self ..);exact List.lt_irrefl _ this
  have hlen:¬ acc.length=64:=by rw [List.length_append,List.length_cons] at hl;omega
  unfold varsP;rw [e3,if_pos h1.1,h1.2,if_neg hc,if_neg hlen];exact ih
theorem valsP_back:∀ (vs rest:List Bs) (acc:List ByteArray) (ps:List Pc),T ps=vs++rest→(∀ v ∈ vs,sgns v 3 8=true∧v.map lowB=v)→(∀ a t,rest=a :: t→sgns a 3 8=false)→∃ ps',valsP ps acc=(ps',acc++vs.map S)∧T ps'=rest
 | [],rest,acc,ps,h,_,hs=>by
  refine⟨ps,?_,h⟩;rw [List.map_nil,List.append_nil];cases ps with
  |nil=>rfl
  |cons p pt=>
   have h2:L p.f0 :: T pt=rest:=h;have:=hs _ _ h2.symm;unfold valsP;rw [if_neg (by rw [this];simp)]
 |v :: vs,rest,acc,ps,h,hv,hs=>by
  obtain⟨p,pt,rfl,e1,e2⟩:=T_cons h;have h1:=hv v (List.mem_cons_self ..);have e3:low p.f0=S v:=by unfold low;rw [e1,h1.2]
  have ih:=valsP_back vs rest (acc++[S v]) pt e2 (fun x hx=>hv x (List.mem_cons_of_mem _ hx)) hs;rw [List.append_assoc] at ih;unfold valsP;rw [e1,if_pos h1.1,e3];exact ih
def vpc (v:ByteArray):List Bs:=if L v=[] then[] else cutL 45 (L v)
def kpc:List Ke→List Bs
 |[]=>[]
 |x :: K=>(L x.f0 :: vpc x.f1)++kpc K
theorem low_map {v:ByteArray} (h:low v=v):(L v).map lowB=L v:=by
 have:=congrArg L h;unfold low at this;rw [LS] at this;exact this
theorem cutL_mem:∀ (l:Bs),∀ p ∈ cutL 45 l,∀ c ∈ p,c ∈ l
 |[],p,hp,c,hc=>by obtain rfl:=List.mem_singleton.1 hp;cases hc
 | x :: l,p,hp,c,hc=>by
  have ih:=cutL_mem l;obtain⟨h,t,e⟩:=cutL_ne 45 l;unfold cutL at hp;by_cases hx:x=45
  ·rw [if_pos hx] at hp
   rcases List.mem_cons.1 hp with rfl|hp
   ·cases hc
   ·exact List.mem_cons_of_mem _ (ih p hp c hc)
  ·rw [if_neg hx,e] at hp
   rw [e] at ih;rcases List.mem_cons.1 hp with rfl|hp
   ·rcases List.mem_cons.1 hc with rfl|hc
    ·exact List.mem_cons_self ..
    ·exact List.mem_cons_of_mem _ (ih h (List.mem_cons_self ..) c hc)
   ·exact List.mem_cons_of_mem _ (ih p (List.mem_cons_of_mem _ hp) c hc)
theorem map_id_mem {l:Bs} (h:l.map lowB=l):∀ c ∈ l,lowB c=c:=by
 intro c hc;obtain⟨i,hi,rfl⟩:=List.getElem_of_mem hc;have:=List.getElem_of_eq h (by simpa using hi)
 simpa using this
theorem vpc_ok {v:ByteArray} (h:valP v=true):(∀ p ∈ vpc v,sgns p 3 8=true∧p.map lowB=p)∧keptVal (joinD ((vpc v).map S))=v:=by
 unfold vpc;by_cases h0:L v=[]
 ·rw [if_pos h0]
  refine⟨fun p hp=>(by cases hp),?_⟩
  have e:v=⟨#[]⟩:=L_inj h0;have e2:joinD (([]:List Bs).map S)=⟨#[]⟩:=L_inj (by unfold joinD;rw [LS];rfl)
  rw [e,e2];unfold keptVal;split <;> rfl
 ·rw [if_neg h0]
  unfold valP at h;rw [decide_eq_false h0,Bool.false_or] at h;simp only [Bool.and_eq_true,decide_eq_true_eq,List.all_eq_true] at h;obtain⟨⟨h1,h2⟩,h3⟩:=h;have hm:=map_id_mem (low_map h2);refine⟨fun p hp=>⟨h3 p hp,?_⟩,?_⟩
  ·have:=List.map_congr_left (f:=lowB) (g:=id) (l:=p) (fun c hc=>hm c (cutL_mem _ p hp c hc))
   rw [this,List.map_id]
  ·have e:joinD ((cutL 45 (L v)).map S)=v:=by
    unfold joinD;have e2:((cutL 45 (L v)).map S).map L=cutL 45 (L v):=by
     rw [List.map_map];refine(List.map_congr_left (g:=id) (fun x _=>LS x)).trans (List.map_id _)
    rw [e2,join_cutL,SL]
   rw [e];unfold keptVal;rw [toList_L,if_neg h1]
theorem sg2_no {a:Bs} (h:sgns a 2 2=true):sgns a 3 8=false:=by
 have:=(sgns_pos h).2;cases h3:sgns a 3 8 with
 |false=>rfl
 |true=>have:=(sgns_pos h3).1;omega
theorem keysP_back:∀ (K:List Ke) (n:Nat) (acc:List Ke) (ps:List Pc),T ps=kpc K→K.length≤n→(∀ x ∈ K,KOk x)→(acc++K).Pairwise (fun a b=>L a.f0<L b.f0)→(acc++K).length≤64→keysP n ps acc=(0,[],acc++K)
 |[],n,acc,ps,h,_,_,_,_=>by
  obtain rfl:=T_nil h;rw [List.append_nil];cases n <;> rfl
 |x :: K,0,acc,ps,h,hn,_,_,_=>absurd hn (by simp)
 | x :: K,n+1,acc,ps,h,hn,hk,hp,hl=>by
  have hx:=hk x (List.mem_cons_self ..);have hv:=vpc_ok hx.2.2;obtain⟨p,pt,rfl,e1,e2⟩:=T_cons (a:=L x.f0) (r:=vpc x.f1++kpc K) h;have e3:p.f0=x.f0:=L_inj e1;obtain⟨ps',hps,hT⟩:=valsP_back (vpc x.f1) (kpc K) [] pt e2 hv.1 (by
   intro a t ha;cases K with
   |nil=>cases ha
   | cons y K'=>
    have:a=L y.f0:=by
     have e:kpc (y :: K')=L y.f0 :: (vpc y.f1++kpc K'):=rfl;rw [e] at ha;exact(List.cons.inj ha).1.symm
    rw [this];exact sg2_no (hk y (by simp)).1)
  have ih:=keysP_back K n (acc++[x]) ps' hT (by simpa using hn) (fun y hy=>hk y (List.mem_cons_of_mem _ hy)) (by rw [List.append_assoc];exact hp) (by rw [List.append_assoc];exact hl)
  rw [List.append_assoc] at ih;have hc:¬ hasName acc x.f0=true:=by
   unfold hasName;rw [List.any_eq_true];rintro⟨y,hy,he⟩;have:=(List.pairwise_append.1 hp).2.2 y hy x (List.mem_cons_self ..);have e:L y.f0=L x.f0:=by have:=beq_iff_eq.1 he;rw [toList_L,toList_L] at this;exact this
   rw [e] at this;exact List.lt_irrefl _ this
  have hlen:¬ acc.length=64:=by rw [List.length_append,List.length_cons] at hl;omega
  unfold keysP;rw [e3,if_pos hx.1,hx.2.1,if_neg hc,if_neg hlen,hps];have e5:(⟨x.f0,keptVal (joinD (([]:List ByteArray)++(vpc x.f1).map S))⟩:Ke)=x:=by rw [List.nil_append,hv.2]
  show keysP n ps' (acc++[⟨x.f0,keptVal (joinD (([]:List ByteArray)++(vpc x.f1).map S))⟩])=_;rw [e5];exact ih
theorem cutAll_app (a b:List ByteArray):cutAll (a++b)=cutAll a++cutAll b:=by unfold cutAll;rw [List.flatMap_append]
theorem cutAll_clean:∀ {a:List ByteArray},(∀ x ∈ a,Cl (L x))→cutAll a=a.map L
 |[],_=>rfl
 |x :: a,h=>by
  have ih:=cutAll_clean (a:=a) (fun y hy=>h y (List.mem_cons_of_mem _ hy));show cutL 45 (L x)++cutAll a=L x :: a.map L;rw [cutL_clean (h x (List.mem_cons_self ..)),ih];rfl
theorem cutAll_keys:∀ (K:List Ke),(∀ x ∈ K,KOk x)→cutAll (flatK K)=kpc K
 |[],_=>rfl
 | x :: K,h=>by
  have ih:=cutAll_keys K (fun y hy=>h y (List.mem_cons_of_mem _ hy));have hx:=h x (List.mem_cons_self ..);have e1:flatK (x :: K)=[x.f0]++nonE x.f1++flatK K:=rfl;have e2:cutAll (nonE x.f1)=vpc x.f1:=by
   unfold nonE vpc;split
   ·rfl
   ·show cutL 45 (L x.f1)++[]=_
    rw [List.append_nil]
  rw [e1,cutAll_app,cutAll_app,ih,e2,cutAll_clean (fun y hy=>by obtain rfl:=List.mem_singleton.1 hy;exact cl_sgns hx.1)]
  rfl
structure Ok (l s r:ByteArray) (V:List ByteArray) (K:List Ke):Prop where
 l:langOk l=true
 s:scrOk s=true
 r:regOk r=true
 nV:V.length≤64
 nK:K.length≤64
 vV:∀ v ∈ V,vart (L v)=true∧low v=v
 pV:V.Pairwise fun a b=>L a<L b
 vK:∀ x ∈ K,KOk x
 pK:K.Pairwise fun a b=>L a.f0<L b.f0
theorem ok_of {l s r:ByteArray} {V:List ByteArray} {K:List Ke} (h:checkP l s r V K=0):Ok l s r V K:=by
 unfold checkP at h;by_cases h1:langOk l=true
 ·rw [if_pos h1] at h
  by_cases h2:scrOk s=true
  ·rw [if_pos h2] at h
   by_cases h3:regOk r=true
   ·rw [if_pos h3] at h
    unfold contP at h;by_cases h4:V.length>64
    ·rw [if_pos h4] at h;exact absurd h (by decide)
    ·rw [if_neg h4] at h
     by_cases h5:vcP none V=0
     ·rw [if_pos h5] at h
      unfold restK at h;by_cases h6:K.length>64
      ·rw [if_pos h6] at h;exact absurd h (by decide)
      ·rw [if_neg h6] at h
       have f1:=vc_facts V none h5;have f2:=kc_facts K none h;exact⟨h1,h2,h3,by omega,by omega,f1.1,f1.2.2,f2.1,f2.2.2⟩
     ·rw [if_neg h5] at h;exact absurd h h5
   ·rw [if_neg h3] at h;exact absurd h (by decide)
  ·rw [if_neg h2] at h;exact absurd h (by decide)
 ·rw [if_neg h1] at h;exact absurd h (by decide)
theorem lang_facts {l:ByteArray} (h:langOk l=true):lets (L (langT l)) 2 3=true∧keptLang (low (langT l))=l:=by
 unfold langT;by_cases h0:L l=[]
 ·rw [if_pos h0]
  have e:l=⟨#[]⟩:=L_inj h0;rw [e];refine⟨by rfl,?_⟩
  have e2:low UND=UND:=by rfl
  rw [e2];unfold keptLang;rw [toList_L,if_pos (by rfl)]
 ·rw [if_neg h0]
  unfold langOk at h;rw [decide_eq_false h0,Bool.false_or] at h;simp only [Bool.and_eq_true,decide_eq_true_eq] at h;refine⟨h.1,?_⟩;rw [h.2.1];unfold keptLang;rw [toList_L,if_neg h.2.2]
theorem scr_facts {s:ByteArray} (h:scrOk s=true) (h0:¬ L s=[]):lets (L s) 4 4=true∧titl s=s:=by
 unfold scrOk at h;rw [decide_eq_false h0,Bool.false_or] at h;simpa using h
theorem reg_facts {r:ByteArray} (h:regOk r=true) (h0:¬ L r=[]):regn (L r)=true∧upp r=r:=by
 unfold regOk at h;rw [decide_eq_false h0,Bool.false_or] at h;simpa using h
def NH (X:List Bs) (q:Bs→Bool):Prop:=∀ a t,X=a :: t→q a=false
theorem now_no {ps:List Pc} {X:List Bs} {q:Bs→Bool} (h:T ps=X) (hn:NH X q) (h0:q []=false):q (L (nowT ps))=false:=by
 cases ps with
 |nil=>exact h0
 |cons p pt=>exact hn _ _ h.symm
theorem regn_len {a:Bs} (h:regn a=true):a.length=2∨a.length=3:=by
 unfold regn at h;rcases Bool.or_eq_true .. |>.mp h with h|h
 ·have:=lets_pos h;omega
 ·unfold nums at h
  simp only [Bool.and_eq_true,decide_eq_true_eq] at h;exact Or.inr h.2
set_option maxRecDepth 100000 in
theorem isD_isL (c:UInt8):isD c=true→isL c=false:=all_u8 (p:=fun c=>isD c=true→isL c=false) (by decide +kernel) c
theorem vart_no {a:Bs} (h:vart a=true):lets a 4 4=false∧regn a=false:=by
 unfold vart at h;rcases Bool.or_eq_true .. |>.mp h with h|h
 ·have hl:=(sgns_pos h).1
  constructor
  ·cases h4:lets a 4 4 with
   |false=>rfl
   |true=>have:=(lets_pos h4).2;omega
  ·cases h4:regn a with
   |false=>rfl
   |true=>have:=regn_len h4;omega
 ·simp only [Bool.and_eq_true] at h
  have hl:=sgns_pos h.1;constructor
  ·cases h4:lets a 4 4 with
   |false=>rfl
   | true=>
    unfold lets at h4;simp only [Bool.and_eq_true,List.all_eq_true] at h4;cases a with
    |nil=>simp at hl
    |cons c t=>
     have h5:=h4.1 c (List.mem_cons_self ..);rw [isD_isL c h.2] at h5;cases h5
  ·cases h4:regn a with
   |false=>rfl
   |true=>have:=regn_len h4;omega
theorem regn_no {a:Bs} (h:regn a=true):lets a 4 4=false:=by
 cases h4:lets a 4 4 with
 |false=>rfl
 |true=>have:=lets_pos h4;have:=regn_len h;omega
section
variable {l s r:ByteArray} {V:List ByteArray} {K:List Ke} (o:Ok l s r V K)
include o
def tailK (K:List Ke):List Bs:=(uK K).map L++kpc K
omit o in
theorem tailK_head (K:List Ke):∀ a t,tailK K=a :: t→a=[117]:=by
 intro a t h;cases K with
 |nil=>cases h
 |cons x K=>exact (List.cons.inj h).1.symm
theorem Y_head:∀ a t,V.map L++tailK K=a :: t→lets a 4 4=false∧regn a=false:=by
 intro a t h;cases V with
 |nil=>rw [tailK_head K a t h];exact⟨by rfl,by rfl⟩
 |cons v V=>
  have:a=L v:=(List.cons.inj h).1.symm;rw [this];exact vart_no (o.vV v (by simp)).1
theorem X_head:NH ((nonE r).map L++(V.map L++tailK K)) (fun a=>lets a 4 4):=by
 intro a t h;by_cases h0:L r=[]
 ·rw [nonE_none h0] at h;exact(Y_head o a t h).1
 ·rw [nonE_some h0] at h
  have:a=L r:=(List.cons.inj h).1.symm;show lets a 4 4=false;rw [this];exact regn_no (reg_facts o.r h0).1
theorem parts_cut:cutAll (parts l s r V K)=L (langT l) :: ((nonE s).map L++((nonE r).map L++(V.map L++tailK K))):=by
 have c1:Cl (L (langT l)):=cl_lets (lang_facts o.l).1;have cS:∀ x ∈ nonE s,Cl (L x):=fun x hx=>by
  unfold nonE at hx;split at hx
  ·cases hx
  ·rename_i h0;obtain rfl:=List.mem_singleton.1 hx;exact cl_lets (scr_facts o.s h0).1
 have cR:∀ x ∈ nonE r,Cl (L x):=fun x hx=>by
  unfold nonE at hx;split at hx
  ·cases hx
  ·rename_i h0;obtain rfl:=List.mem_singleton.1 hx;exact cl_regn (reg_facts o.r h0).1
 have cU:∀ x ∈ uK K,Cl (L x):=fun x hx=>by
  unfold uK at hx;split at hx
  ·obtain rfl:=List.mem_singleton.1 hx
   intro c hc;obtain rfl:=List.mem_singleton.1 (show c ∈ [(117:UInt8)] from hc)
   rfl
  ·cases hx
 unfold parts tailK;rw [cutAll_app,cutAll_app,cutAll_app,cutAll_app,cutAll_app,cutAll_keys K o.vK,cutAll_clean (a:=[langT l]) (fun x hx=>by obtain rfl:=List.mem_singleton.1 hx;exact c1),cutAll_clean cS,cutAll_clean cR,
  cutAll_clean (a:=V) (fun x hx=>cl_vart (o.vV x hx).1),cutAll_clean cU]
 simp [List.append_assoc]
theorem parts_clean:∀ x ∈ cutAll (parts l s r V K),Cl x:=by
 rw [parts_cut o];intro x hx;rcases List.mem_cons.1 hx with rfl|hx
 ·exact cl_lets (lang_facts o.l).1
 rcases List.mem_append.1 hx with hx|hx
 ·unfold nonE at hx
  split at hx
  ·cases hx
  ·rename_i h0;obtain rfl:=List.mem_singleton.1 hx;exact cl_lets (scr_facts o.s h0).1
 rcases List.mem_append.1 hx with hx|hx
 ·unfold nonE at hx
  split at hx
  ·cases hx
  ·rename_i h0;obtain rfl:=List.mem_singleton.1 hx;exact cl_regn (reg_facts o.r h0).1
 rcases List.mem_append.1 hx with hx|hx
 ·obtain ⟨v,hv,rfl⟩:=List.mem_map.1 hx;exact cl_vart (o.vV v hv).1
 unfold tailK at hx;rcases List.mem_append.1 hx with hx|hx
 ·unfold uK at hx
  split at hx
  ·obtain rfl:=List.mem_singleton.1 hx
   intro c hc;obtain rfl:=List.mem_singleton.1 (show c ∈ [(117:UInt8)] from hc)
   rfl
  ·cases hx
 ·have key:∀ (M:List Ke),(∀ y ∈ M,KOk y)→x ∈ kpc M→Cl x:=by
   intro M;induction M with
   |nil=>intro _ h;cases h
   | cons y M ih=>
    intro hM h;have hy:=hM y (List.mem_cons_self ..);rcases List.mem_append.1 (show x ∈ (L y.f0 :: vpc y.f1)++kpc M from h) with h|h
    ·rcases List.mem_cons.1 h with rfl|h
     ·exact cl_sgns hy.1
     ·exact cl_sgns ((vpc_ok hy.2.2).1 x h).1
    ·exact ih (fun z hz=>hM z (List.mem_cons_of_mem _ hz)) h
  exact key K o.vK hx
theorem parts_pieces:T (pieces (joinT (parts l s r V K)))=L (langT l) :: ((nonE s).map L++((nonE r).map L++(V.map L++tailK K))):=by
 have h:=parts_clean o;have e:parts l s r V K=langT l :: (nonE s++nonE r++V++uK K++flatK K):=by unfold parts;simp
 rw [← parts_cut o];rw [e] at h ⊢;exact pieces_join _ _ h
theorem headRP_back {ps:List Pc} (h:T ps=(nonE r).map L++(V.map L++tailK K)) (l' s':ByteArray):∃ ps',headRP ps l' s'=(true,ps',l',s',r)∧T ps'=V.map L++tailK K:=by
 unfold headRP;by_cases h0:L r=[]
 ·have e:r=⟨#[]⟩:=L_inj h0
  rw [nonE_none h0] at h;have hn:=now_no (q:=regn) h (fun a t ha=>(Y_head o a t ha).2) (by rfl)
  rw [if_neg (by rw [hn];simp),e]
  exact⟨ps,rfl,h⟩
 ·rw [nonE_some h0] at h
  obtain⟨p,pt,rfl,e1,e2⟩:=T_cons h;have e3:p.f0=r:=L_inj e1;have f:=reg_facts o.r h0;show ∃ ps',(if regn (L p.f0)=true then(true,pt,l',s',upp p.f0) else(true,p :: pt,l',s',E))=(true,ps',l',s',r)∧_;rw [e3,if_pos f.1,f.2];exact⟨pt,rfl,e2⟩
theorem headSP_back {ps:List Pc} (h:T ps=(nonE s).map L++((nonE r).map L++(V.map L++tailK K))) (l':ByteArray):∃ ps',headSP ps l'=(true,ps',l',s,r)∧T ps'=V.map L++tailK K:=by
 unfold headSP;by_cases h0:L s=[]
 ·have e:s=⟨#[]⟩:=L_inj h0
  rw [nonE_none h0] at h;have hn:=now_no (q:=fun a=>lets a 4 4) h (X_head o) (by rfl)
  rw [if_neg (by rw [hn];simp)]
  obtain⟨ps',q,t⟩:=headRP_back o h l' E;exact⟨ps',by rw [q,e],t⟩
 ·rw [nonE_some h0] at h
  obtain⟨p,pt,rfl,e1,e2⟩:=T_cons h;have e3:p.f0=s:=L_inj e1;have f:=scr_facts o.s h0;show ∃ ps',(if lets (L p.f0) 4 4=true then headRP pt l' (titl p.f0) else headRP (p :: pt) l' E)=(true,ps',l',s,r)∧_;rw [e3,if_pos f.1,f.2];exact headRP_back o e2 l' s
theorem read_back {ps:List Pc} (h:T ps=L (langT l) :: ((nonE s).map L++((nonE r).map L++(V.map L++tailK K)))) (en:Int):readP ps en=(0,0,some (l,s,r,V,K)):=by
 obtain⟨p,pt,rfl,e1,e2⟩:=T_cons h;have e3:p.f0=langT l:=L_inj e1;have f:=lang_facts o.l;obtain⟨p1,q1,t1⟩:=headSP_back o e2 l;have hh:headP (p :: pt)=(true,p1,l,s,r):=by
  show(if lets (L p.f0) 2 3=true then headSP pt (keptLang (low p.f0)) else(false,p :: pt,E,E,E))=_;rw [e3,if_pos f.1,f.2,q1]
 obtain⟨p2,q2,t2⟩:=varsP_back V (tailK K) [] p1 t1 o.vV o.pV (by simpa using o.nV) (fun a t ha=>by rw [tailK_head K a t ha];rfl)
 rw [List.nil_append] at q2;unfold readP;rw [hh];show(if true=true then(if (varsP p1 []).1=0 then readUP en (varsP p1 []).2.1 l s r (varsP p1 []).2.2 else _) else _)=_;rw [if_pos rfl,q2];show(if (0:Int)=0 then readUP en p2 l s r V else _)=_;rw [if_pos rfl];cases hK:K with
 |nil=>
  rw [hK] at t2;obtain rfl:=T_nil (show T p2=[] from t2)
  rfl
 | cons x K'=>
  have hlen:0<K.length:=by rw [hK];simp
  have t3:T p2=L UU :: kpc K:=by
   rw [t2];unfold tailK uK;rw [if_pos hlen];rfl
  obtain⟨q,qt,rfl,e5,e6⟩:=T_cons t3;have e7:q.f0=UU:=L_inj e5;have hle:∀ (M:List Ke),M.length≤(kpc M).length:=by
   intro M;induction M with
   |nil=>exact Nat.le_refl _
   |cons y M ih=>
    have e:kpc (y :: M)=(L y.f0 :: vpc y.f1)++kpc M:=rfl;rw [e,List.length_append,List.length_cons,List.length_cons];omega
  have hqt:K.length≤qt.length+1:=by
   have h1:=hle K;rw [← e6] at h1;unfold T at h1;rw [List.length_map] at h1;omega
  have hk:=keysP_back K (qt.length+1) [] qt e6 hqt o.vK o.pK (by simpa using o.nK)
  rw [List.nil_append] at hk;rw [← hK];have eu:(low UU).toList=[117]:=by rw [toList_L];rfl
  show(if (low q.f0).toList=[117] then(if (keysP (qt.length+1) qt []).1=0 then(if (keysP (qt.length+1) qt []).2.2.length=0 then(nowAt en (keysP (qt.length+1) qt []).2.1,70,none) else readEnd en (keysP (qt.length+1) qt []).2.1 (l,s,r,V,(keysP (qt.length+1) qt []).2.2)) else(nowAt en (keysP (qt.length+1) qt []).2.1,(keysP (qt.length+1) qt []).1,none)) else(q.f1,70,none))=_;rw [e7,if_pos eu,hk];show(if (0:Int)=0 then(if K.length=0 then _ else readEnd en [] (l,s,r,V,K)) else _)=_;rw [if_pos rfl,if_neg (by omega)]
  rfl
set_option maxRecDepth 100000 in
omit o in
end
theorem rdOf_drop {vs:List ByteArray} {i:Nat} {y:ByteArray} {ys:List ByteArray} (h:vs.drop i=y :: ys):i<vs.length∧rdOf ByteArray.empty vs (i:Int)=y∧vs.drop (i+1)=ys:=by
 have hi:i<vs.length:=Classical.byContradiction fun hc=>by rw [List.drop_eq_nil_of_le (by omega)] at h;cases h
 have h2:=List.drop_eq_getElem_cons hi;rw [h] at h2;obtain⟨e1,e2⟩:=List.cons.inj h2;refine⟨hi,?_,e2.symm⟩;rw [e1];simp [rdOf,hi]
theorem drop_nil {α:Type} {vs:List α} {i:Nat} (h:vs.drop i=[]):vs.length≤i:=List.drop_eq_nil_iff.1 h
theorem tl_ne {x y:ByteArray}:(y.toList=x.toList)↔y=x:=⟨fun h=>L_inj (by rw [← toList_L,← toList_L,h]),fun h=>by rw [h]⟩
theorem put_d (vs:List ByteArray) (x:ByteArray) (hv:vs.length≤64):∀ (ys acc:List ByteArray) (i:Nat),vs.drop i=ys→x ∉ ys→acc.length≤i+1→i≤vs.length→Ev (fun k=>i7_put.l0 k vs x acc true (i:Int)) (acc++ys,true)
 |[],acc,i,h,_,ha,hi=>by
  refine Ev.step (f:=fun _=>some (acc,true)) (fun k=>?_) (by simpa using Ev.now _)
  have:=drop_nil h;simp only [i7_put.l0];rw [if_neg (by omega),if_pos trivial]
 | y :: ys,acc,i,h,hx,ha,hi=>by
  obtain⟨h1,h2,h3⟩:=rdOf_drop h;have hxy:¬ y.toList=x.toList:=fun e=>hx (by rw [tl_ne.1 e];exact List.mem_cons_self ..)
  refine Ev.step (f:=fun k=>i7_put.j1 k vs x acc true (i:Int) false) (fun k=>?_) (Ev.step (f:=fun k=>i7_put.l0 k vs x (acc++[y]) true ((i+1:Nat):Int)) (fun k=>?_) ?_)
  ·simp only [i7_put.l0]
   rw [if_pos (by omega),if_pos (by omega),h2,if_neg hxy,if_pos trivial]
  ·simp only [i7_put.j1]
   rw [if_neg (by simp),if_pos (by omega),if_pos (by omega),if_pos (by omega),h2,w64 (by omega)];rfl
  ·have:=put_d vs x hv ys (acc++[y]) (i+1) h3 (fun hm=>hx (List.mem_cons_of_mem _ hm)) (by simp;omega) (by omega)
   rw [List.append_assoc] at this;exact this
theorem put_n (vs:List ByteArray) (x:ByteArray) (hv:vs.length≤64):∀ (ys acc:List ByteArray) (i:Nat),vs.drop i=ys→x ∉ ys→acc.length≤i→i≤vs.length→Ev (fun k=>i7_put.l0 k vs x acc false (i:Int)) (acc++ins ltT x ys,true)
 |[],acc,i,h,_,ha,hi=>by
  refine Ev.step (f:=fun _=>some (acc++[x],true)) (fun k=>?_) (by simpa [ins] using Ev.now _)
  have:=drop_nil h;simp only [i7_put.l0];rw [if_neg (by omega),if_neg (by simp),if_pos (by omega)]
 | y :: ys,acc,i,h,hx,ha,hi=>by
  obtain⟨h1,h2,h3⟩:=rdOf_drop h;have hxy:¬ y.toList=x.toList:=fun e=>hx (by rw [tl_ne.1 e];exact List.mem_cons_self ..)
  have hm:x ∉ ys:=fun hm=>hx (List.mem_cons_of_mem _ hm);refine Ev.step (f:=fun k=>i7_put.j1 k vs x acc false (i:Int) (ltT x y)) (fun k=>?_) ?_
  ·simp only [i7_put.l0]
   rw [if_pos (by omega),if_pos (by omega),h2,if_neg hxy,if_neg (by simp)];rfl
  ·by_cases hl:ltT x y=true
   ·rw [hl]
    refine Ev.step (f:=fun k=>i7_put.l0 k vs x (acc++[x]++[y]) true ((i+1:Nat):Int)) (fun k=>?_) ?_
    ·simp only [i7_put.j1]
     rw [if_pos trivial,if_pos (by omega)]
     simp only [Option.bind_some];rw [if_pos (by omega),if_pos (by omega),if_pos (by simp;omega),h2,w64 (by omega)];rfl
    ·have:=put_d vs x hv ys (acc++[x]++[y]) (i+1) h3 hm (by simp;omega) (by omega)
     unfold ins;rw [if_pos hl];simpa [List.append_assoc] using this
   ·rw [Bool.not_eq_true] at hl
    rw [hl];refine Ev.step (f:=fun k=>i7_put.l0 k vs x (acc++[y]) false ((i+1:Nat):Int)) (fun k=>?_) ?_
    ·simp only [i7_put.j1]
     rw [if_neg (by simp),if_pos (by omega),if_pos (by omega),if_pos (by omega),h2,w64 (by omega)];rfl
    ·have:=put_n vs x hv ys (acc++[y]) (i+1) h3 hm (by simp;omega) (by omega)
     unfold ins;rw [hl,if_neg (by simp)]
     simpa [List.append_assoc] using this
theorem put_m (vs:List ByteArray) (x:ByteArray) (hv:vs.length≤64):∀ (ys acc:List ByteArray) (i:Nat) (d:Bool),vs.drop i=ys→x ∈ ys→acc.length≤i+1→(d=false→acc.length≤i)→i≤vs.length→Ev (fun k=>i7_put.l0 k vs x acc d (i:Int)) (vs,false)
 |[],acc,i,d,h,hx,_,_,hi=>by cases hx
 | y :: ys,acc,i,d,h,hx,ha,hd,hi=>by
  obtain⟨h1,h2,h3⟩:=rdOf_drop h;by_cases hxy:y.toList=x.toList
  ·refine Ev.step (f:=fun _=>some (vs,false)) (fun k=>?_) (Ev.now _)
   simp only [i7_put.l0];rw [if_pos (by omega),if_pos (by omega),h2,if_pos hxy]
  ·have hm:x ∈ ys:=by
    rcases List.mem_cons.1 hx with rfl|hm
    ·exact absurd rfl hxy
    ·exact hm
   have go:∀ b:Bool,(b=true→d=false)→Ev (fun k=>i7_put.j1 k vs x acc d (i:Int) b) (vs,false):=by
    intro b hb;cases b with
    |true=>
     have:=hd (hb rfl);refine Ev.step (f:=fun k=>i7_put.l0 k vs x (acc++[x]++[y]) true ((i+1:Nat):Int)) (fun k=>?_) (put_m vs x hv ys _ (i+1) true h3 hm (by simp;omega) (fun h=>by cases h) (by omega))
     simp only [i7_put.j1];rw [if_pos trivial,if_pos (by omega)]
     simp only [Option.bind_some];rw [if_pos (by omega),if_pos (by omega),if_pos (by simp;omega),h2,w64 (by omega)];rfl
    |false=>
     refine Ev.step (f:=fun k=>i7_put.l0 k vs x (acc++[y]) d ((i+1:Nat):Int)) (fun k=>?_) (put_m vs x hv ys _ (i+1) d h3 hm (by simp;omega) (fun h=>by have:=hd h;simp;omega) (by omega))
     simp only [i7_put.j1];rw [if_neg (by simp),if_pos (by omega),if_pos (by omega),if_pos (by omega),h2,w64 (by omega)];rfl
   cases d with
   |true=>
    refine Ev.step (f:=fun k=>i7_put.j1 k vs x acc true (i:Int) false) (fun k=>?_) (go false (fun h=>by cases h))
    simp only [i7_put.l0];rw [if_pos (by omega),if_pos (by omega),h2,if_neg hxy,if_pos trivial]
   |false=>
    refine Ev.step (f:=fun k=>i7_put.j1 k vs x acc false (i:Int) (ltT x y)) (fun k=>?_) (go _ (fun _=>rfl));simp only [i7_put.l0];rw [if_pos (by omega),if_pos (by omega),h2,if_neg hxy,if_neg (by simp)];rfl
theorem put_f (vs:List ByteArray) (x:ByteArray) (hv:vs.length≤64):Ev (fun k=>i7_put.f k vs x) (if Lib.containsS vs x=true then(vs,false) else(ins ltT x vs,true)):=by
 unfold i7_put.f;by_cases hx:x ∈ vs
 ·rw [if_pos ((Lib.containsS_iff ..).2 hx)]
  exact put_m vs x hv vs [] 0 false rfl hx (by simp) (by simp) (by simp)
 ·rw [if_neg (fun h=>hx ((Lib.containsS_iff ..).1 h))]
  have:=put_n vs x hv vs [] 0 rfl hx (by simp) (by simp)
  simpa using this
theorem rdK_drop {vs:List Ky} {i:Nat} {y:Ky} {ys:List Ky} (h:vs.drop i=y :: ys):i<vs.length∧rd_T39 vs (i:Int)=y∧vs.drop (i+1)=ys:=by
 have hi:i<vs.length:=Classical.byContradiction fun hc=>by rw [List.drop_eq_nil_of_le (by omega)] at h;cases h
 have h2:=List.drop_eq_getElem_cons hi;rw [h] at h2;obtain⟨e1,e2⟩:=List.cons.inj h2;refine⟨hi,?_,e2.symm⟩;rw [e1];simp [rd_T39,hi]
theorem nm_not {ks:List Ky} {nm:ByteArray} (h:hasName ks nm=false) {y:Ky} (hy:y ∈ ks):¬ y.f0.toList=nm.toList:=by
 unfold hasName at h;rw [List.any_eq_false] at h;simpa using h y hy
theorem putK_d (vs:List Ky) (a b:ByteArray) (hv:vs.length≤64):∀ (ys acc:List Ky) (i:Nat),vs.drop i=ys→hasName ys a=false→acc.length≤i+1→i≤vs.length→Ev (fun k=>i7_putKey.l0 k vs acc true (i:Int) a b) (acc++ys,true)
 |[],acc,i,h,_,ha,hi=>by
  refine Ev.step (f:=fun _=>some (acc,true)) (fun k=>?_) (by simpa using Ev.now _)
  have:=drop_nil h;simp only [i7_putKey.l0];rw [if_neg (by omega),if_pos trivial]
 | y :: ys,acc,i,h,hx,ha,hi=>by
  obtain⟨h1,h2,h3⟩:=rdK_drop h;have hxy:=nm_not hx (List.mem_cons_self ..);refine Ev.step (f:=fun k=>i7_putKey.j1 k vs acc true (i:Int) false a b) (fun k=>?_) (Ev.step (f:=fun k=>i7_putKey.l0 k vs (acc++[y]) true ((i+1:Nat):Int) a b) (fun k=>?_) ?_)
  ·simp only [i7_putKey.l0]
   rw [if_pos (by omega),if_pos (by omega),h2,if_neg hxy,if_pos trivial]
  ·simp only [i7_putKey.j1]
   rw [if_neg (by simp),if_pos (by omega),if_pos (by omega),if_pos (by omega),h2,w64 (by omega)];rfl
  ·have:=putK_d vs a b hv ys (acc++[y]) (i+1) h3 (by unfold hasName at hx ⊢;simp at hx ⊢;exact hx.2) (by simp;omega) (by omega)
   rw [List.append_assoc] at this;exact this
theorem putK_n (vs:List Ky) (a b:ByteArray) (hv:vs.length≤64):∀ (ys acc:List Ky) (i:Nat),vs.drop i=ys→hasName ys a=false→acc.length≤i→i≤vs.length→Ev (fun k=>i7_putKey.l0 k vs acc false (i:Int) a b) (acc++ins ltK ⟨a,b⟩ ys,true)
 |[],acc,i,h,_,ha,hi=>by
  refine Ev.step (f:=fun _=>some (acc++[⟨a,b⟩],true)) (fun k=>?_) (by simpa [ins] using Ev.now _)
  have:=drop_nil h;simp only [i7_putKey.l0];rw [if_neg (by omega),if_neg (by simp),if_pos (by omega)]
 | y :: ys,acc,i,h,hx,ha,hi=>by
  obtain⟨h1,h2,h3⟩:=rdK_drop h;have hxy:=nm_not hx (List.mem_cons_self ..);have hm:hasName ys a=false:=by unfold hasName at hx ⊢;simp at hx ⊢;exact hx.2
  refine Ev.step (f:=fun k=>i7_putKey.j1 k vs acc false (i:Int) (ltK ⟨a,b⟩ y) a b) (fun k=>?_) ?_
  ·simp only [i7_putKey.l0]
   rw [if_pos (by omega),if_pos (by omega),h2,if_neg hxy,if_neg (by simp)];rfl
  ·by_cases hl:ltK ⟨a,b⟩ y=true
   ·rw [hl]
    refine Ev.step (f:=fun k=>i7_putKey.l0 k vs (acc++[⟨a,b⟩]++[y]) true ((i+1:Nat):Int) a b) (fun k=>?_) ?_
    ·simp only [i7_putKey.j1]
     rw [if_pos trivial,if_pos (by omega)]
     simp only [Option.bind_some];rw [if_pos (by omega),if_pos (by omega),if_pos (by simp;omega),h2,w64 (by omega)];rfl
    ·have:=putK_d vs a b hv ys (acc++[⟨a,b⟩]++[y]) (i+1) h3 hm (by simp;omega) (by omega)
     unfold ins;rw [if_pos hl];simpa [List.append_assoc] using this
   ·rw [Bool.not_eq_true] at hl
    rw [hl];refine Ev.step (f:=fun k=>i7_putKey.l0 k vs (acc++[y]) false ((i+1:Nat):Int) a b) (fun k=>?_) ?_
    ·simp only [i7_putKey.j1]
     rw [if_neg (by simp),if_pos (by omega),if_pos (by omega),if_pos (by omega),h2,w64 (by omega)];rfl
    ·have:=putK_n vs a b hv ys (acc++[y]) (i+1) h3 hm (by simp;omega) (by omega)
     unfold ins;rw [hl,if_neg (by simp)]
     simpa [List.append_assoc] using this
theorem putK_m (vs:List Ky) (a b:ByteArray) (hv:vs.length≤64):∀ (ys acc:List Ky) (i:Nat) (d:Bool),vs.drop i=ys→hasName ys a=true→acc.length≤i+1→(d=false→acc.length≤i)→i≤vs.length→Ev (fun k=>i7_putKey.l0 k vs acc d (i:Int) a b) (vs,false)
 |[],acc,i,d,h,hx,_,_,hi=>by cases hx
 | y :: ys,acc,i,d,h,hx,ha,hd,hi=>by
  obtain⟨h1,h2,h3⟩:=rdK_drop h;by_cases hxy:y.f0.toList=a.toList
  ·refine Ev.step (f:=fun _=>some (vs,false)) (fun k=>?_) (Ev.now _)
   simp only [i7_putKey.l0];rw [if_pos (by omega),if_pos (by omega),h2,if_pos hxy]
  ·have hm:hasName ys a=true:=by unfold hasName at hx ⊢;simpa [hxy] using hx
   have go:∀ q:Bool,(q=true→d=false)→Ev (fun k=>i7_putKey.j1 k vs acc d (i:Int) q a b) (vs,false):=by
    intro q hb;cases q with
    |true=>
     have:=hd (hb rfl);refine Ev.step (f:=fun k=>i7_putKey.l0 k vs (acc++[⟨a,b⟩]++[y]) true ((i+1:Nat):Int) a b) (fun k=>?_) (putK_m vs a b hv ys _ (i+1) true h3 hm (by simp;omega) (fun h=>by cases h) (by omega))
     simp only [i7_putKey.j1];rw [if_pos trivial,if_pos (by omega)]
     simp only [Option.bind_some];rw [if_pos (by omega),if_pos (by omega),if_pos (by simp;omega),h2,w64 (by omega)];rfl
    |false=>
     refine Ev.step (f:=fun k=>i7_putKey.l0 k vs (acc++[y]) d ((i+1:Nat):Int) a b) (fun k=>?_) (putK_m vs a b hv ys _ (i+1) d h3 hm (by simp;omega) (fun h=>by have:=hd h;simp;omega) (by omega))
     simp only [i7_putKey.j1];rw [if_neg (by simp),if_pos (by omega),if_pos (by omega),if_pos (by omega),h2,w64 (by omega)];rfl
   cases d with
   |true=>
    refine Ev.step (f:=fun k=>i7_putKey.j1 k vs acc true (i:Int) false a b) (fun k=>?_) (go false (fun h=>by cases h))
    simp only [i7_putKey.l0];rw [if_pos (by omega),if_pos (by omega),h2,if_neg hxy,if_pos trivial]
   |false=>
    refine Ev.step (f:=fun k=>i7_putKey.j1 k vs acc false (i:Int) (ltK ⟨a,b⟩ y) a b) (fun k=>?_) (go _ (fun _=>rfl));simp only [i7_putKey.l0];rw [if_pos (by omega),if_pos (by omega),h2,if_neg hxy,if_neg (by simp)];rfl
theorem putK_f (vs:List Ky) (a b:ByteArray) (hv:vs.length≤64):Ev (fun k=>i7_putKey.f k vs a b) (if hasName vs a=true then(vs,false) else(ins ltK ⟨a,b⟩ vs,true)):=by
 unfold i7_putKey.f;by_cases hx:hasName vs a=true
 ·rw [if_pos hx]
  exact putK_m vs a b hv vs [] 0 false rfl hx (by simp) (by simp) (by simp)
 ·rw [if_neg hx]
  rw [Bool.not_eq_true] at hx;have:=putK_n vs a b hv vs [] 0 rfl hx (by simp) (by simp)
  simpa using this
theorem at_cons {all:List Pc} {i:Nat} {p:Pc} {r:List Pc} (h:all.drop i=p :: r):
 (i:Int)<((txts all).length:Int)∧(i:Int)<((plcs all).length:Int)∧rdOf ByteArray.empty (txts all) (i:Int)=p.f0∧rd (plcs all) (i:Int)=p.f1∧all.drop (i+1)=r∧i<all.length∧(i:Int)≠((txts all).length:Int):=by
 have hi:i<all.length:=Classical.byContradiction fun hc=>by rw [List.drop_eq_nil_of_le (by omega)] at h;cases h
 have h2:=List.drop_eq_getElem_cons hi;rw [h] at h2;obtain⟨e1,e2⟩:=List.cons.inj h2;have h3:(txts all).length=all.length:=by simp [txts]
 have h4:(plcs all).length=all.length:=by simp [plcs]
 refine⟨by omega,by omega,?_,?_,e2.symm,hi,by omega⟩
 ·rw [e1];simp [rdOf,txts,hi]
 ·rw [e1];simp [rd,plcs,hi]
theorem at_nil {all:List Pc} {i:Nat} (h:all.drop i=[]) (hi:i≤all.length):¬ (i:Int)<((txts all).length:Int)∧(i:Int)=((txts all).length:Int):=by
 have:=drop_nil h;have h3:(txts all).length=all.length:=by simp [txts]
 omega
theorem sm_drop {all:List Pc} (h:Sm all) (i:Nat):Sm (all.drop i):=fun p hp=>h p (List.mem_of_mem_drop hp)
theorem has_isrt (ks:List Ky) (nm:ByteArray):hasName (isrt ltK ks) nm=hasName ks nm:=by
 rw [Bool.eq_iff_iff];simp only [hasName,List.any_eq_true,isrt_mem]
theorem join_snoc (d x:Bs):∀ l:List Bs,l≠[]→Lib.join (l++[x]) d=Lib.join l d++d++x
 |[],h=>absurd rfl h
 |[a],_=>by simp [Lib.join,List.intercalate]
 |a :: b :: l,_=>by
  have ih:=join_snoc d x (b :: l) (by simp)
  have e1:∀ (c:Bs) (m:List Bs),Lib.join (a :: c :: m) d=a++d++Lib.join (c :: m) d:=by intro c m;simp [Lib.join,List.intercalate]
  rw [show (a :: b :: l)++[x]=a :: b :: (l++[x]) from rfl,e1,e1,show b :: (l++[x])=(b :: l)++[x] from rfl,ih]
  simp [List.append_assoc]
theorem joinD_nil:joinD []=⟨#[]⟩:=rfl
theorem joinD_one (x:ByteArray):joinD [x]=x:=by unfold joinD;simp [Lib.join,SL]
theorem joinD_snoc (v:List ByteArray) (x:ByteArray) (h:v≠[]):joinD (v++[x])=(joinD v++(⟨#[45]⟩:ByteArray))++x:=by
 apply L_inj;rw [L_app,L_app];unfold joinD;rw [LS,LS,List.map_append,List.map_cons,List.map_nil,join_snoc _ _ _ (by simpa using h)]
theorem joinD_ne (v:List ByteArray) (h:v≠[]) (hp:∀ x ∈ v,0<x.size):¬ (joinD v).toList=[]:=by
 rw [toList_L];unfold joinD;rw [LS];cases v with
 |nil=>exact absurd rfl h
 |cons a v=>
  have ha:L a≠[]:=fun e=>by have:=hp a (by simp);rw [← L_len,e] at this;simp at this
  cases v with
  |nil=>simpa [Lib.join] using ha
  |cons b v=>simp [Lib.join,List.intercalate,ha]
theorem joinD_size (v:List ByteArray) (h:∀ x ∈ v,x.size≤65536):(joinD v).size≤v.length*65537:=by
 unfold joinD;rw [S_size];exact joinD_len v h
theorem keys_v (all:List Pc) (hsm:Sm all) (hl:all.length≤65537) (nm:ByteArray) (pl:Int) (l s r:ByteArray) (vs:List ByteArray) (ks:List Ky) {q:ByteArray×ByteArray×ByteArray×List ByteArray×List Ky×Int×Int}:
 ∀ (ps:List Pc) (v:List ByteArray) (i:Nat),all.drop i=ps→i≤all.length→v.length≤i→(∀ x ∈ v,x.size≤65536)→(∀ x ∈ v,0<x.size)→
  (∀ i':Nat,all.drop i'=(valsP ps v).1→i'≤all.length→Ev (fun k=>i7_keys.j4 k (txts all) (plcs all) (i':Int) nm pl (keptVal (joinD (valsP ps v).2)) l s r vs ks) q)→
  Ev (fun k=>i7_keys.l1 k (txts all) (plcs all) (i:Int) nm pl (joinD v) l s r vs ks) q:=by
 have stop:∀ (v:List ByteArray) (i:Nat),Ev (fun k=>i7_keys.j4 k (txts all) (plcs all) (i:Int) nm pl (keptVal (joinD v)) l s r vs ks) q→Ev (fun k=>i7_keys.j2 k (txts all) (plcs all) (i:Int) nm pl (joinD v) false l s r vs ks) q:=by
  intro v i h;refine Ev.step (fun k=>?_) h;simp only [i7_keys.j2,keptVal];rw [if_neg (by simp)]
  by_cases ht:(joinD v).toList=[116,114,117,101]
  ·rw [if_pos ht,if_pos ht]
  ·rw [if_neg ht,if_neg ht]
 intro ps;induction ps with
 |nil=>
  intro v i h hi hv hle hp hq;have hn:=at_nil h hi;refine Ev.step (fun k=>?_) (stop v i (hq i h hi));simp only [i7_keys.l1];rw [if_neg hn.1]
 | cons p ps ih=>
  intro v i h hi hv hle hp hq;obtain⟨a1,a2,a3,a4,a5,a6,a7⟩:=at_cons h;have hps:p.f0.size≤65536:=by have:=sm_drop hsm i;rw [h] at this;exact this.head
  refine Ev.step (f:=fun k=>(i7_signs.f k p.f0 3 8).bind fun t=>i7_keys.j2 k (txts all) (plcs all) (i:Int) nm pl (joinD v) t l s r vs ks) (fun k=>?_) (Ev.bind (rsigns_f p.f0 3 8 (by omega)) ?_)
  ·simp only [i7_keys.l1]
   rw [if_pos a1,if_pos (by omega),a3]
  ·cases hs:sgns (L p.f0) 3 8 with
   |false=>
    refine stop v i ?_;have e:valsP (p :: ps) v=(p :: ps,v):=by simp [valsP,hs]
    have:=hq i (by rw [e];exact h) hi
    rw [e] at this;exact this
   | true=>
    have hpos:3≤p.f0.size:=by have:=(sgns_pos hs).1;rwa [L_len] at this
    have hsz:=joinD_size v hle;have e65:v.length*65537≤65537*65537:=Nat.mul_le_mul_right _ (by omega)
    have e:valsP (p :: ps) v=valsP ps (v++[low p.f0]):=by simp [valsP,hs]
    have next:=ih (v++[low p.f0]) (i+1) a5 (by omega) (by simp;omega)
     (fun x hx=>by
      rcases List.mem_append.1 hx with hx|hx
      ·exact hle x hx
      ·obtain rfl:x=low p.f0:=by simpa using hx
       rw [low_size];exact hps)
     (fun x hx=>by
      rcases List.mem_append.1 hx with hx|hx
      ·exact hp x hx
      ·obtain rfl:x=low p.f0:=by simpa using hx
       rw [low_size];omega)
     (by rw [e] at hq;exact hq)
    have j3:∀ x:ByteArray,x++low p.f0=joinD (v++[low p.f0])→x.size≤65537*65537+1→Ev (fun k=>i7_keys.j3 k (txts all) (plcs all) (i:Int) nm pl x l s r vs ks) q:=by
     intro x hx hxs;refine Ev.step (fun k=>?_) next;simp only [i7_keys.j3];rw [if_pos (by omega),if_pos a1,a3,small_f _ (by omega)]
     simp only [Option.bind_some];rw [low_size,if_pos (by omega),hx,w64 (by omega)]
     rfl
    by_cases hv0:v=[]
    ·subst hv0
     refine Ev.step (fun k=>?_) (j3 (joinD []) (by rw [List.nil_append,joinD_one,joinD_nil];apply L_inj;rw [L_app];rfl) (by rw [joinD_nil];show 0≤_;omega))
     simp only [i7_keys.j2];rw [if_pos trivial,if_pos (by rw [toList_L];rfl)]
    ·refine Ev.step (fun k=>?_) (j3 (joinD v++(⟨#[45]⟩:ByteArray)) (joinD_snoc v _ hv0).symm (by rw [ByteArray.size_append];show _+1≤_;omega))
     simp only [i7_keys.j2];rw [if_pos trivial,if_neg (joinD_ne v hv0 hp),if_pos (by omega)]
def kplc (q:Int×List Pc×List Ky):Int×Int:=if q.1=0 then(match q.2.1 with|[]=>(0,0)|p :: _=>(p.f1,70)) else(nowAt 0 q.2.1,q.1)
theorem keysR_l (all:List Pc) (hsm:Sm all) (hl:all.length≤65537) (l s r:ByteArray) (vs:List ByteArray):
 ∀ (n:Nat) (ps:List Pc) (ks:List Ky) (i:Nat),all.drop i=ps→i≤all.length→ps.length<n→ks.length≤64→
  Ev (fun k=>i7_keys.l0 k (txts all) (plcs all) (i:Int) l s r vs (isrt ltK ks)) (l,s,r,vs,isrt ltK (keysP n ps ks).2.2,kplc (keysP n ps ks)):=by
 intro n;induction n with
 |zero=>intro ps ks i h hi hn;omega
 | succ n ih=>
  intro ps ks i h hi hn hk;cases ps with
  |nil=>
   have hna:=at_nil h hi;refine Ev.step (f:=fun _=>some (l,s,r,vs,isrt ltK ks,0,0)) (fun k=>?_) (Ev.now _);simp only [i7_keys.l0];rw [if_neg hna.1]
  | cons p ps=>
   obtain⟨a1,a2,a3,a4,a5,a6,a7⟩:=at_cons h;have hsd:=sm_drop hsm i;rw [h] at hsd;have hps:=hsd.head;rw [List.length_cons] at hn;refine Ev.step (f:=fun k=>(i7_signs.f k p.f0 2 2).bind fun t=>if t=true then i7_keys.l1 k (txts all) (plcs all) ((i+1:Nat):Int) (low p.f0) p.f1 (joinD []) l s r vs (isrt ltK ks) else some (l,s,r,vs,isrt ltK ks,p.f1,70)) (fun k=>?_) (Ev.bind (rsigns_f p.f0 2 2 (by omega)) ?_)
   ·simp only [i7_keys.l0]
    rw [if_pos a1,if_pos (by omega),a3,small_f _ (by omega),a4,w64 (by omega)]
    simp only [Option.bind_some,if_pos a2];rfl
   ·cases hs:sgns (L p.f0) 2 2 with
    |false=>
     have e:keysP (n+1) (p :: ps) ks=(0,p :: ps,ks):=by simp [keysP,hs]
     rw [e];exact Ev.now _
    | true=>
     simp only [if_true];refine keys_v all hsm hl _ _ l s r vs _ ps [] (i+1) a5 (by omega) (by simp) (by simp) (by simp) (fun i' h' hi'=>?_)
     have hvl:=(valsP_sm ps [] hsd.tail).2.1;refine Ev.step (f:=fun k=>(i7_putKey.f k (isrt ltK ks) (low p.f0) (keptVal (joinD (valsP ps []).2))).bind fun bt=>if bt.2=true then(if (bt.1.length:Int)>64 then some (l,s,r,vs,isrt ltK ks,p.f1,5) else i7_keys.l0 k (txts all) (plcs all) (i':Int) l s r vs bt.1) else some (l,s,r,vs,isrt ltK ks,p.f1,6)) (fun k=>rfl) (Ev.bind (putK_f _ _ _ (by rw [isrt_len];exact hk)) ?_)
     rw [has_isrt];cases hh:hasName ks (low p.f0) with
     |true=>
      have e:keysP (n+1) (p :: ps) ks=(6,p :: ps,ks):=by simp [keysP,hs,hh]
      rw [e];exact Ev.now _
     | false=>
      simp only [Bool.false_eq_true,if_false,if_true];rw [← isrt_snoc,isrt_len];simp only [List.length_append,List.length_cons,List.length_nil];by_cases h64:ks.length=64
      ·have e:keysP (n+1) (p :: ps) ks=(5,p :: ps,ks):=by simp [keysP,hs,hh,h64]
       rw [e,h64];exact Ev.now _
      ·have e:keysP (n+1) (p :: ps) ks=keysP n (valsP ps []).1 (ks++[⟨low p.f0,keptVal (joinD (valsP ps []).2)⟩]):=by simp [keysP,hs,hh,h64]
       rw [e];simp only [if_neg (show ¬ ((ks.length+(0+1):Nat):Int)>64 by omega)]
       exact ih _ _ i' h' hi' (by omega) (by simp;omega)
theorem nm1_snoc {ks:List Ky} (h:Nm1 ks) {a:ByteArray} (ha:hasName ks a=false) (b:ByteArray):Nm1 (ks++[⟨a,b⟩]):=by
 refine List.pairwise_append.2 ⟨h,by simp,fun x hx y hy=>?_⟩
 obtain rfl:y=⟨a,b⟩:=by simpa using hy
 exact fun e=>nm_not ha hx (by rw [e])
theorem keysP_nm1:∀ (n:Nat) (ps:List Pc) (ks:List Ky),Nm1 ks→Nm1 (keysP n ps ks).2.2
 |0,ps,ks,hk=>hk
 |n+1,[],ks,hk=>hk
 | n+1,p :: ps,ks,hk=>by
  simp only [keysP];split
  ·split
   ·exact hk
   ·rename_i h1 h2
    split
    ·exact hk
    ·exact keysP_nm1 n _ _ (nm1_snoc hk (by simpa using h2) _)
  ·exact hk
theorem keysP_grow:∀ (n:Nat) (ps:List Pc) (ks:List Ky),ks.length≤(keysP n ps ks).2.2.length
 |0,ps,ks=>Nat.le_refl _
 |n+1,[],ks=>Nat.le_refl _
 | n +1,p :: ps,ks=>by
  simp only [keysP];split
  ·split
   ·exact Nat.le_refl _
   ·split
    ·exact Nat.le_refl _
    ·have:=keysP_grow n (valsP ps []).1 (ks++[⟨low p.f0,keptVal (joinD (valsP ps []).2)⟩])
     simp at this;omega
  ·exact Nat.le_refl _
theorem keysP_none (n:Nat) (ps:List Pc) (h0:(keysP (n+1) ps []).1=0) (h:(keysP (n+1) ps []).2.2.length=0):(keysP (n+1) ps []).2.1=ps:=by
 cases ps with
 |nil=>rfl
 | cons p ps=>
  simp only [keysP] at h h0 ⊢;split at h
  ·split at h
   ·rename_i h1 h2;exact absurd h2 (by simp [hasName])
   ·rw [if_neg (by simp)] at h
    have:=keysP_grow n (valsP ps []).1 ([]++[⟨low p.f0,keptVal (joinD (valsP ps []).2)⟩]);simp only [List.length_append,List.length_cons,List.length_nil] at this;omega
  ·rename_i h1;simp [h1]
def refEnd (en:Int) (rest:List Pc) (l s r:ByteArray) (V:List ByteArray):PRes:=match rest with
 |[]=>(l,s,r,V,[],0,0)
 |p :: pt=>if (low p.f0).toList=[117] then(match pt with|[]=>(l,s,r,V,[],en,70)|q :: qs=>(l,s,r,V,isrt ltK (keysP ((q :: qs).length+1) (q :: qs) []).2.2,kplc (keysP ((q :: qs).length+1) (q :: qs) []))) else(l,s,r,V,[],p.f1,70)
def refVars (en:Int) (ps:List Pc) (vs:List ByteArray) (l s r:ByteArray):PRes:=if (varsP ps vs).1=0 then refEnd en (varsP ps vs).2.1 l s r (isrt ltT (varsP ps vs).2.2) else(l,s,r,isrt ltT (varsP ps vs).2.2,[],nowAt 0 (varsP ps vs).2.1,(varsP ps vs).1)
def refRead (en:Int) (ps:List Pc):PRes:=if (headP ps).1=true then refVars en (headP ps).2.1 [] (headP ps).2.2.1 (headP ps).2.2.2.1 (headP ps).2.2.2.2 else(E,E,E,[],[],0,70)
theorem cont_isrt (vs:List ByteArray) (x:ByteArray):Lib.containsS (isrt ltT vs) x=Lib.containsS vs x:=by
 rw [Bool.eq_iff_iff,Lib.containsS_iff,Lib.containsS_iff,isrt_mem]
section
variable (all:List Pc) (hsm:Sm all) (hl:all.length≤65537) (en:Int) (l s r:ByteArray)
include hsm hl
theorem read_e (V:List ByteArray) (rest:List Pc) (i:Nat) (h:all.drop i=rest) (hi:i≤all.length) (hq:vart (L (nowT rest))=false∨rest=[]):Ev (fun k=>i7_read.j6 k (txts all) (plcs all) en (i:Int) false l s r V) (refEnd en rest l s r V):=by
 cases rest with
 |nil=>
  have hn:=at_nil h hi;refine Ev.step (fun k=>?_) (Ev.now _);simp only [i7_read.j6];rw [if_neg (by simp),if_pos hn.2];rfl
 | cons p pt=>
  obtain⟨a1,a2,a3,a4,a5,a6,a7⟩:=at_cons h;have hsd:=sm_drop hsm i;rw [h] at hsd;have hps:=hsd.head;simp only [refEnd];by_cases hu:(low p.f0).toList=[117]
  ·rw [if_pos hu]
   refine Ev.step (f:=fun k=>i7_keys.f k l s r V ([]:List Ky) (txts all) (plcs all) ((i+1:Nat):Int) en) (fun k=>?_) ?_
   ·simp only [i7_read.j6]
    rw [if_neg (by simp),if_neg a7,if_pos (by omega),if_pos a1,a3,small_f _ (by omega)]
    simp only [Option.bind_some];rw [if_pos hu,w64 (by omega)]
    exact Option.bind_fun_some _
   ·unfold i7_keys.f
    cases pt with
    |nil=>
     have hn:=at_nil a5 (by omega)
     simp only [if_pos hn.2];exact Ev.now _
    |cons q qs=>
     have hq:=at_cons a5;simp only [if_neg hq.2.2.2.2.2.2];exact keysR_l all hsm hl l s r V ((q :: qs).length+1) (q :: qs) [] (i+1) a5 (by omega) (by omega) (by simp)
  ·rw [if_neg hu]
   refine Ev.step (fun k=>?_) (Ev.now _);simp only [i7_read.j6];rw [if_neg (by simp),if_neg a7,if_pos (by omega),if_pos a1,a3,small_f _ (by omega)]
   simp only [Option.bind_some];rw [if_neg hu,if_pos a2,a4]
theorem read_v:∀ (ps:List Pc) (vs:List ByteArray) (i:Nat),all.drop i=ps→i≤all.length→vs.length≤64→Ev (fun k=>i7_read.l0 k (txts all) (plcs all) en (i:Int) l s r (isrt ltT vs)) (refVars en ps vs l s r):=by
 intro ps;induction ps with
 |nil=>
  intro vs i h hi hv;have hn:=at_nil h hi;refine Ev.step (fun k=>?_) (read_e all hsm hl en l s r (isrt ltT vs) [] i h hi (.inr rfl));simp only [i7_read.l0];rw [if_neg hn.1]
 | cons p ps ih=>
  intro vs i h hi hv;obtain⟨a1,a2,a3,a4,a5,a6,a7⟩:=at_cons h;have hsd:=sm_drop hsm i;rw [h] at hsd;have hps:=hsd.head;refine Ev.step (f:=fun k=>(i7_variant.f k p.f0).bind fun t=>i7_read.j6 k (txts all) (plcs all) en (i:Int) t l s r (isrt ltT vs)) (fun k=>?_) (Ev.bind (rvariant_f p.f0 (by omega)) ?_)
  ·simp only [i7_read.l0]
   rw [if_pos a1,if_pos (by omega),a3]
  ·cases hs:vart (L p.f0) with
   |false=>
    have e:varsP (p :: ps) vs=(0,p :: ps,vs):=by simp [varsP,hs]
    unfold refVars;rw [e];exact read_e all hsm hl en l s r (isrt ltT vs) (p :: ps) i h hi (.inl hs)
   | true=>
    refine Ev.step (f:=fun k=>(i7_put.f k (isrt ltT vs) (low p.f0)).bind fun bt=>if bt.2=true then(if (bt.1.length:Int)>64 then some (l,s,r,isrt ltT vs,[],p.f1,5) else i7_read.l0 k (txts all) (plcs all) en ((i+1:Nat):Int) l s r bt.1) else some (l,s,r,isrt ltT vs,[],p.f1,6)) (fun k=>?_) (Ev.bind (put_f _ _ (by rw [isrt_len];exact hv)) ?_)
    ·simp only [i7_read.j6]
     rw [if_pos trivial,if_pos (by omega),if_pos a1,a3,small_f _ (by omega),a4,w64 (by omega)]
     simp only [Option.bind_some,if_pos a2];rfl
    ·rw [cont_isrt]
     unfold refVars;cases hh:Lib.containsS vs (low p.f0) with
     |true=>
      have e:varsP (p :: ps) vs=(6,p :: ps,vs):=by simp [varsP,hs,hh]
      rw [e];exact Ev.now _
     | false=>
      simp only [Bool.false_eq_true,if_false,if_true];rw [← isrt_snoc,isrt_len];simp only [List.length_append,List.length_cons,List.length_nil];by_cases h64:vs.length=64
      ·have e:varsP (p :: ps) vs=(5,p :: ps,vs):=by simp [varsP,hs,hh,h64]
       rw [e,h64];exact Ev.now _
      ·have e:varsP (p :: ps) vs=varsP ps (vs++[low p.f0]):=by simp [varsP,hs,hh,h64]
       rw [e];simp only [if_neg (show ¬ ((vs.length+(0+1):Nat):Int)>64 by omega)]
       exact ih _ (i+1) a5 (by omega) (by simp;omega)
theorem read_r (hr:r=E) (ps:List Pc) (i:Nat) (h:all.drop i=ps) (hi:i≤all.length):Ev (fun k=>i7_read.j2 k (txts all) (plcs all) en (i:Int) l s r) (refVars en (headRP ps l s).2.1 [] l s (headRP ps l s).2.2.2.2):=by
 subst hr;have stop:∀ q:Bool,q=false→headRP ps l s=(true,ps,l,s,E)→Ev (fun k=>i7_read.j3 k (txts all) (plcs all) en (i:Int) q l s E) (refVars en (headRP ps l s).2.1 [] l s (headRP ps l s).2.2.2.2):=by
  intro q hq e;rw [e,hq];refine Ev.step (f:=fun k=>i7_read.j4 k (txts all) (plcs all) en (i:Int) l s E) (fun k=>?_) (Ev.step (f:=fun k=>i7_read.l0 k (txts all) (plcs all) en (i:Int) l s E (isrt ltT [])) (fun k=>rfl) (read_v all hsm hl en l s E ps [] i h hi (by simp)))
  simp only [i7_read.j3];rw [if_neg (by simp)]
 cases ps with
 |nil=>
  have hn:=at_nil h hi;refine Ev.step (f:=fun k=>i7_read.j3 k (txts all) (plcs all) en (i:Int) false l s E) (fun k=>?_) (stop _ rfl rfl);simp only [i7_read.j2];rw [if_neg hn.1]
 | cons p pt=>
  obtain⟨a1,a2,a3,a4,a5,a6,a7⟩:=at_cons h;have hsd:=sm_drop hsm i;rw [h] at hsd;have hps:=hsd.head;refine Ev.step (f:=fun k=>(i7_region.f k p.f0).bind fun t=>i7_read.j3 k (txts all) (plcs all) en (i:Int) t l s E) (fun k=>?_) (Ev.bind (rregion_f p.f0 (by omega)) ?_)
  ·simp only [i7_read.j2]
   rw [if_pos a1,if_pos (by omega),a3]
  ·cases hs:regn (L p.f0) with
   |false=>exact stop _ rfl (by show(if regn (L p.f0)=true then _ else _)=_;rw [hs,if_neg (by simp)])
   |true=>
    have e:headRP (p :: pt) l s=(true,pt,l,s,upp p.f0):=by show(if regn (L p.f0)=true then _ else _)=_;rw [hs,if_pos rfl];rfl
    rw [e];refine Ev.step (f:=fun k=>i7_read.j4 k (txts all) (plcs all) en ((i+1:Nat):Int) l s (upp p.f0)) (fun k=>?_) (Ev.step (f:=fun k=>i7_read.l0 k (txts all) (plcs all) en ((i+1:Nat):Int) l s (upp p.f0) (isrt ltT [])) (fun k=>rfl) (read_v all hsm hl en l s (upp p.f0) pt [] (i+1) a5 (by omega) (by simp)))
    simp only [i7_read.j3];rw [if_pos trivial,if_pos (by omega),if_pos a1,a3,great_f _ (by omega),w64 (by omega)]
    rfl
theorem read_s (hs':s=E) (hr:r=E) (ps:List Pc) (i:Nat) (h:all.drop i=ps) (hi:i≤all.length):Ev (fun k=>i7_read.j0 k (txts all) (plcs all) en (i:Int) l s r) (refVars en (headSP ps l).2.1 [] l (headSP ps l).2.2.2.1 (headSP ps l).2.2.2.2):=by
 subst hs';have hR:∀ (qs:List Pc) (x:ByteArray),(headRP qs l x).2.2.2.1=x:=by intro qs x;unfold headRP;split <;> rfl
 have stop:∀ q:Bool,q=false→headSP ps l=headRP ps l E→Ev (fun k=>i7_read.j1 k (txts all) (plcs all) en (i:Int) q l E r) (refVars en (headSP ps l).2.1 [] l (headSP ps l).2.2.2.1 (headSP ps l).2.2.2.2):=by
  intro q hq e;rw [e,hR,hq];refine Ev.step (fun k=>?_) (read_r all hsm hl en l E r hr ps i h hi);simp only [i7_read.j1];rw [if_neg (by simp)]
 cases ps with
 |nil=>
  have hn:=at_nil h hi;refine Ev.step (f:=fun k=>i7_read.j1 k (txts all) (plcs all) en (i:Int) false l E r) (fun k=>?_) (stop _ rfl rfl);simp only [i7_read.j0];rw [if_neg hn.1]
 | cons p pt=>
  obtain⟨a1,a2,a3,a4,a5,a6,a7⟩:=at_cons h;have hsd:=sm_drop hsm i;rw [h] at hsd;have hps:=hsd.head;refine Ev.step (f:=fun k=>(i7_script.f k p.f0).bind fun t=>i7_read.j1 k (txts all) (plcs all) en (i:Int) t l E r) (fun k=>?_) (Ev.bind (script_f p.f0 (by omega)) ?_)
  ·simp only [i7_read.j0]
   rw [if_pos a1,if_pos (by omega),a3]
  ·cases hs:lets (L p.f0) 4 4 with
   |false=>exact stop _ rfl (by show(if lets (L p.f0) 4 4=true then _ else _)=_;rw [hs,if_neg (by simp)])
   |true=>
    have h4:4≤p.f0.size:=by have:=(lets_pos hs).1;rwa [L_len] at this
    have e:headSP (p :: pt) l=headRP pt l (titl p.f0):=by show(if lets (L p.f0) 4 4=true then _ else _)=_;rw [hs,if_pos rfl];rfl
    rw [e,hR];refine Ev.step (fun k=>?_) (read_r all hsm hl en l (titl p.f0) r hr pt (i+1) a5 (by omega))
    simp only [i7_read.j1];rw [if_pos trivial,if_pos (by omega),if_pos a1,a3,rtitle_f _ (by omega),if_neg (by omega),w64 (by omega)]
    rfl
end
theorem headSP_l (ps:List Pc) (l:ByteArray):(headSP ps l).1=true∧(headSP ps l).2.2.1=l:=by
 unfold headSP headRP;split <;> split <;> exact⟨rfl,rfl⟩
theorem rread_f (ps:List Pc) (hsm:Sm ps) (hl:ps.length≤65537) (en:Int) (hne:ps≠[]):Ev (fun k=>i7_read.f k (txts ps) (plcs ps) en) (refRead en ps):=by
 cases ps with
 |nil=>exact absurd rfl hne
 | cons p pt=>
  obtain⟨a1,a2,a3,a4,a5,a6,a7⟩:=at_cons (all:=p :: pt) (i:=0) rfl;have hps:=hsm.head;unfold i7_read.f;rw [show ((0:Nat):Int)=0 from rfl] at a1 a3
  simp only [if_pos a1,a3];refine Ev.bind (lang_f p.f0 (by omega)) ?_
  have e:headP (p :: pt)=if lets (L p.f0) 2 3=true then headSP pt (keptLang (low p.f0)) else(false,p :: pt,E,E,E):=rfl;unfold refRead;rw [e];cases hs:lets (L p.f0) 2 3 with
  |false=>simpa using Ev.now _
  | true=>
   simp only [if_true];have hh:=headSP_l pt (keptLang (low p.f0));have main:=read_s (p :: pt) hsm hl en (keptLang (low p.f0)) E E rfl rfl pt 1 rfl (by simp)
   rw [if_pos hh.1,hh.2];rw [small_f _ (by omega)]
   simp only [Option.bind_some];unfold keptLang at main ⊢;by_cases hu:(low p.f0).toList=[117,110,100]
   ·simp only [if_pos hu] at main ⊢
    exact main
   ·simp only [if_neg hu] at main ⊢
    exact main
theorem varsP_stop:∀ (ps:List Pc) (vs:List ByteArray),(varsP ps vs).1≠0→∃ p r,(varsP ps vs).2.1=p :: r
 |[],vs,h=>absurd rfl h
 | p :: ps,vs,h=>by
  simp only [varsP] at h ⊢;split at h
  ·rename_i h1
   rw [if_pos h1];split at h
   ·rename_i h2;rw [if_pos h2];exact⟨_,_,rfl⟩
   ·rename_i h2
    rw [if_neg h2];split at h
    ·rename_i h3;rw [if_pos h3];exact⟨_,_,rfl⟩
    ·rename_i h3;rw [if_neg h3];exact varsP_stop ps _ h
  ·exact absurd rfl h
theorem keysP_stop:∀ (n:Nat) (ps:List Pc) (ks:List Ky),(keysP n ps ks).1≠0→∃ p r,(keysP n ps ks).2.1=p :: r
 |0,ps,ks,h=>absurd rfl h
 |n+1,[],ks,h=>absurd rfl h
 | n+1,p :: ps,ks,h=>by
  simp only [keysP] at h ⊢;split at h
  ·rename_i h1
   rw [if_pos h1];split at h
   ·rename_i h2;rw [if_pos h2];exact⟨_,_,rfl⟩
   ·rename_i h2
    rw [if_neg h2];split at h
    ·rename_i h3;rw [if_pos h3];exact⟨_,_,rfl⟩
    ·rename_i h3;rw [if_neg h3];exact keysP_stop n _ _ h
  ·exact absurd rfl h
def refOut (q:PRes):PRes:=if q.2.2.2.2.2.2=0 then(q.1,q.2.1,q.2.2.1,q.2.2.2.1,q.2.2.2.2.1,0,0) else(E,E,E,[],[],q.2.2.2.2.2.1,q.2.2.2.2.2.2)
theorem out_end (en:Int) (rest:List Pc) (l s r:ByteArray) (vs:List ByteArray):refOut (refEnd en rest l s r (isrt ltT vs))=parseRes (readUP en rest l s r vs):=by
 cases rest with
 |nil=>
  show refOut (l,s,r,isrt ltT vs,[],0,0)=(l,s,r,sortTexts vs,sortKeys [],0,0);rw [isrt_texts,← isrt_keys [] List.Pairwise.nil];rfl
 | cons p pt=>
  simp only [refEnd,readUP];by_cases hu:(low p.f0).toList=[117]
  ·rw [if_pos hu,if_pos hu]
   cases pt with
   |nil=>rfl
   | cons q qs=>
    simp only;obtain⟨K,hK⟩:∃ K,K=keysP ((q :: qs).length+1) (q :: qs) []:=⟨_,rfl⟩;have hn1:Nm1 K.2.2:=by rw [hK];exact keysP_nm1 _ _ _ List.Pairwise.nil
    have hst:=keysP_stop ((q :: qs).length+1) (q :: qs) [];have hno:=keysP_none ((q :: qs).length) (q :: qs);rw [← hK] at hst hno ⊢;obtain⟨c,rest,ks⟩:=K;simp only at hn1 hst hno ⊢;by_cases h0:c=0
    ·rw [if_pos h0]
     subst h0;by_cases h1:ks.length=0
     ·rw [if_pos h1]
      have:=hno rfl h1;subst this;rfl
     ·rw [if_neg h1]
      cases rest with
      |nil=>
       show(l,s,r,isrt ltT vs,isrt ltK ks,(0:Int),(0:Int))=(l,s,r,sortTexts vs,sortKeys ks,0,0);rw [isrt_texts,isrt_keys ks hn1]
      |cons a b=>rfl
    ·rw [if_neg h0]
     obtain⟨a,b,rfl⟩:=hst h0;unfold refOut kplc;simp only;rw [if_neg h0];simp only;rw [if_neg h0];rfl
  ·rw [if_neg hu,if_neg hu];rfl
theorem out_read (en:Int) (ps:List Pc) (p:Pc) (pt:List Pc) (hp:ps=p :: pt) (h0:p.f1=0):refOut (refRead en ps)=parseRes (readP ps en):=by
 unfold refRead readP;by_cases hb:(headP ps).1=true
 ·rw [if_pos hb,if_pos hb]
  unfold refVars;have hst:=varsP_stop (headP ps).2.1 [];by_cases hc:(varsP (headP ps).2.1 []).1=0
  ·rw [if_pos hc,if_pos hc];exact out_end ..
  ·rw [if_neg hc,if_neg hc]
   obtain⟨a,b,e⟩:=hst hc;rw [e];unfold refOut;simp only;rw [if_neg hc];rfl
 ·rw [if_neg hb,if_neg hb]
  have:(headP ps).2.1=ps:=by
   unfold headP at hb ⊢;split at hb
   ·exact absurd (headSP_l _ _).1 hb
   ·rename_i h;rw [if_neg h]
  rw [this,hp];show(E,E,E,[],[],(0:Int),(70:Int))=(E,E,E,[],[],p.f1,70);rw [h0]
theorem rparse_f (s:ByteArray):Ev (fun k=>i7_Parse.f k s) (parseP s):=by
 unfold i7_Parse.f parseP;by_cases h1:s.size>65536
 ·simp only [if_pos h1,if_pos (show(s.size:Int)>65536 by omega)];exact Ev.now _
 ·simp only [if_neg h1,if_neg (show ¬ (s.size:Int)>65536 by omega)]
  rw [small_f _ (by omega)]
  simp only [Option.bind_some];by_cases h2:(low s).toList=[114,111,111,116]
  ·simp only [if_pos h2];exact Ev.now _
  ·simp only [if_neg h2]
   have hp:=pieces_sm s (by omega)
   obtain⟨p,pt,e1,e2⟩:=pcs_head s s.size 0 0;have e1':pieces s=p :: pt:=e1;refine Ev.bind (pieces_f s (by omega)) ?_
   refine Ev.bind (rread_f (pieces s) hp.1 hp.2 _ (by rw [e1'];simp)) ?_
   rw [← out_read (s.size:Int) (pieces s) p pt e1' (by rw [e2];rfl)]
   unfold refOut;by_cases hz:(refRead (s.size:Int) (pieces s)).2.2.2.2.2.2=0
   ·rw [if_pos hz,if_pos hz];exact Ev.now _
   ·rw [if_neg hz,if_neg hz];exact Ev.now _
theorem parseP_len (s:ByteArray):(parseP s).2.2.2.1.length≤64∧(parseP s).2.2.2.2.1.length≤64:=by
 unfold parseP;split
 ·exact ⟨by simp,by simp⟩
 ·split
  ·exact ⟨by simp,by simp⟩
  ·have:=readP_len (pieces s) (s.size:Int)
   unfold parseRes;split
   ·exact ⟨by simp,by simp⟩
   ·rename_i t ht
    have:=this t ht;rw [sortKeys_len];simp only [← isrt_texts,isrt_len];exact this
end Go.Proofs.YtphjhbppjakocaaGreatDoor.Pl
