/- Several texts of this claim in one: Chk1, Chk2; conditions: those that each theorem states. -/
import Derived.Test.YtphjhbppjakocaaGreatDoorPl1
import Derived.Test.YtphjhbppjakocaaGreatDoorWInv
import Derived.Test.YtphjhbppjakocaaGreatDoorRPut
import Derived.Lib.SplitLaws
import Derived.Lib.IndexBytes
set_option linter.unusedVariables false
set_option linter.unusedSimpArgs false
namespace Go.Proofs.YtphjhbppjakocaaGreatDoor.Pl
open Go.RowKit Go.Proofs.YtphjhbppjakocaaGreatDoorW.PrintWords Go.Proofs.YtphjhbppjakocaaGreatDoor.PTag
def cutL (c:UInt8):Bs→List Bs
 |[]=>[[]]
 |x :: l=>if x=c then[] :: cutL c l else(match cutL c l with|[]=>[[x]]|h :: t=>(x :: h) :: t)
theorem cutL_ne (c:UInt8):∀ l:Bs,∃ h t,cutL c l=h :: t
 |[]=>⟨_,_,rfl⟩
 |x :: l=>by
  obtain⟨h,t,e⟩:=cutL_ne c l;unfold cutL;rw [e];split
  ·exact ⟨_,_,rfl⟩
  ·exact ⟨_,_,rfl⟩
theorem splitK_cut (c:UInt8):∀ l:Bs,Lib.splitK [c] 0 (l.count c) l=cutL c l
 |[]=>rfl
 | x :: l=>by
  have ih:=splitK_cut c l;by_cases hx:x=c
  ·subst hx
   have hi:Lib.index (x :: l) [x]=0:=by rw [Lib.index_one];simp [Lib.indexByte]
   rw [List.count_cons_self];unfold Lib.splitK cutL;rw [hi,if_neg (by decide),if_pos rfl,← ih]
   simp
  ·rw [List.count_cons_of_ne (fun e=>hx e)]
   unfold cutL;rw [if_neg hx,← ih];cases hk:l.count c with
   |zero=>simp [Lib.splitK]
   | succ k=>
    have hm:c ∈ l:=List.count_pos_iff.1 (by omega)
    have h1:Lib.index l [c]≠ -1:=by
     intro h0;rw [Lib.index_one] at h0;obtain⟨n,hn,he⟩:=List.getElem_of_mem hm;exact Lib.indexByte_none h0 n (by rw [List.getElem?_eq_getElem hn,he])
    have hge:=Lib.index_ge l [c];have h2:Lib.index (x :: l) [c]=Lib.index l [c]+1:=by
     rw [Lib.index_one] at h1 ⊢;rw [Lib.index_one];show(if (x==c)=true then(0:Int) else if (Lib.indexByte l c== -1)=true then -1 else Lib.indexByte l c+1)=_;rw [if_neg (by simpa using hx),if_neg (by simpa using h1)]
    unfold Lib.splitK;rw [h2,if_neg (by simp;omega),if_neg (by simpa using h1)]
    obtain⟨n,hn⟩:∃ n:Nat,Lib.index l [c]=n:=⟨(Lib.index l [c]).toNat,by omega⟩
    rw [hn];have e1:((n:Int)+1).toNat=n+1:=by omega
    simp [e1]
def valP (s:ByteArray):Bool:=decide (L s=[])||(decide (L s≠[116,114,117,101])&&decide (low s=s)&&(cutL 45 (L s)).all (fun l=>sgns l 3 8))
theorem ev_row {α:Type} (p:α→Bool) (e:Bool) (g:Nat→Nat→Option Bool):∀ (xs:List α) (i:Nat),Ev (fun k=>g k (i+xs.length)) e→
 (∀ j x,xs[j]?=some x→p x=true→∀ b,Ev (fun k=>g k (i+j+1)) b→Ev (fun k=>g k (i+j)) b)→(∀ j x,xs[j]?=some x→p x=false→Ev (fun k=>g k (i+j)) false)→Ev (fun k=>g k i) (xs.all p&&e):=by
 intro xs;induction xs with
 |nil=>intro i h _ _;simpa using h
 | cons x xs ih=>
  intro i h ht hf;have hi:=ih (i+1) (by rw [List.length_cons] at h;rw [show i+1+xs.length=i+(xs.length+1) by omega];exact h)
   (fun j y hy hp b hb=>by have:=ht (j+1) y (by simpa using hy) hp b;rw [show i+(j+1)+1=i+1+j+1 by omega,show i+(j+1)=i+1+j by omega] at this;exact this hb)
   (fun j y hy hp=>by have:=hf (j+1) y (by simpa using hy) hp;rw [show i+(j+1)=i+1+j by omega] at this;exact this)
  rw [List.all_cons];cases hp:p x with
  |true=>rw [Bool.true_and];exact ht 0 x rfl hp _ hi
  |false=>rw [Bool.false_and,Bool.false_and];exact hf 0 x rfl hp
theorem rdOf_at {xs:List ByteArray} {j:Nat} {x:ByteArray} (h:xs[j]?=some x):j<xs.length∧rdOf ByteArray.empty xs (j:Int)=x:=by
 have hj:j<xs.length:=by
  rcases Nat.lt_or_ge j xs.length with h1|h1
  ·exact h1
  ·rw [List.getElem?_eq_none h1] at h;cases h
 exact⟨hj,by simp [rdOf,h]⟩
theorem valued_l (xs:List ByteArray) (hn:xs.length≤1048577) (hz:∀ x ∈ xs,x.size≤1048576):Ev (fun k=>tag_valued.l0 k xs (xs.length:Int) 0) (xs.all (fun x=>sgns (L x) 3 8)):=by
 have:=ev_row (fun x=>sgns (L x) 3 8) true (fun k i=>tag_valued.l0 k xs (xs.length:Int) (i:Int)) xs 0 ?_ ?_ ?_
 ·simpa using this
 ·refine Ev.step (f:=fun _=>some true) (fun k=>?_) (Ev.now _)
  simp only [tag_valued.l0];rw [if_neg (by omega)]
 ·intro j x hx hp b hb
  obtain⟨h1,h2⟩:=rdOf_at hx;rw [Nat.zero_add] at hb ⊢;refine Ev.step (f:=fun k=>(tag_signs.f k x 3 8).bind fun t=>if t=true then tag_valued.l0 k xs (xs.length:Int) ((j+1:Nat):Int) else some false) (fun k=>?_) ?_
  ·simp only [tag_valued.l0]
   rw [if_pos (by omega),if_pos (by omega),if_pos (by omega),h2,w64 (by omega)]
   rfl
  ·refine Ev.bind (signs_f x 3 8 (by have:=hz x (List.mem_of_getElem? hx);omega)) ?_
   rw [hp];exact hb
 ·intro j x hx hp
  obtain⟨h1,h2⟩:=rdOf_at hx;rw [Nat.zero_add];refine Ev.step (f:=fun k=>(tag_signs.f k x 3 8).bind fun t=>if t=true then tag_valued.l0 k xs (xs.length:Int) ((j+1:Nat):Int) else some false) (fun k=>?_) ?_
  ·simp only [tag_valued.l0]
   rw [if_pos (by omega),if_pos (by omega),if_pos (by omega),h2,w64 (by omega)]
   rfl
  ·refine Ev.bind (signs_f x 3 8 (by have:=hz x (List.mem_of_getElem? hx);omega)) ?_
   rw [hp];exact Ev.now _
theorem splitB_small (sep:ByteArray):∀ (k:Nat) (s:ByteArray),∀ p ∈ Lib.splitB sep 0 k s,p.size≤s.size
 |0,s,p,hp=>by obtain rfl:=List.mem_singleton.1 hp;exact Nat.le_refl _
 | k+1,s,p,hp=>by
  unfold Lib.splitB at hp;split at hp
  ·obtain rfl:=List.mem_singleton.1 hp;exact Nat.le_refl _
  ·rcases List.mem_cons.1 hp with rfl|h
   ·rw [ext_size];omega
   ·have:=splitB_small sep k _ p h
    rw [ext_size] at this;omega
theorem all_map (xs:List ByteArray) (p:Bs→Bool):xs.all (fun x=>p (L x))=(xs.map L).all p:=by rw [List.all_map];rfl
theorem valued_f (s:ByteArray) (hs:s.size≤1048576):Ev (fun k=>tag_valued.f k s) (valP s):=by
 unfold tag_valued.f valP;rw [toList_L];by_cases h0:L s=[]
 ·rw [decide_eq_true h0];simp only [if_pos h0];exact Ev.now _
 ·rw [decide_eq_false h0,Bool.false_or];simp only [if_neg h0]
  by_cases h1:L s=[116,114,117,101]
  ·simp only [if_pos h1]
   have:decide (L s≠[116,114,117,101])=false:=decide_eq_false (fun h=>h h1);rw [this,Bool.false_and,Bool.false_and];exact Ev.step (f:=fun k=>some false) (fun k=>by simp [tag_valued.j0]) (Ev.now _)
  ·simp only [if_neg h1]
   rw [decide_eq_true h1,Bool.true_and,lower_f s (by omega)]
   simp only [Option.bind_some,toList_L];by_cases h2:low s=s
   ·have e1:(L s != L (low s))=false:=by rw [h2];simp
    rw [e1,decide_eq_true h2,Bool.true_and];refine Ev.step (f:=fun k=>(strings_Split.f s ⟨#[45]⟩).bind fun t=>tag_valued.l0 k t (t.length:Int) 0) (fun k=>by simp only [tag_valued.j0];rw [if_neg (by simp)]) ?_
    have e2:strings_Split.f s ⟨#[45]⟩=some (Lib.splitB ⟨#[45]⟩ 0 (Lib.countB s ⟨#[45]⟩) s):=by
     unfold strings_Split.f;rw [if_pos (by omega),if_pos (by decide)]
    rw [e2];simp only [Option.bind_some];have e3:(Lib.splitB ⟨#[45]⟩ 0 (Lib.countB s ⟨#[45]⟩) s).map L=cutL 45 (L s):=by
     rw [← splitK_cut,← Lib.count_one];exact Lib.splitB_data ⟨#[45]⟩ 0 _ s
    have e4:=all_map (Lib.splitB ⟨#[45]⟩ 0 (Lib.countB s ⟨#[45]⟩) s) (fun l=>sgns l 3 8);rw [e3] at e4;rw [← e4];refine valued_l _ ?_ (fun x hx=>Nat.le_trans (splitB_small _ _ _ x hx) hs);have:=Lib.splitB_length_le ⟨#[45]⟩ 0 (Lib.countB s ⟨#[45]⟩) s;have:=Lib.countB_le ⟨#[45]⟩ (by decide) s.size s (Nat.le_refl _)
    omega
   ·have e1:(L s != L (low s))=true:=by
     simp only [bne_iff_ne,ne_eq];exact fun e=>h2 (L_inj e).symm
    rw [e1,decide_eq_false h2,Bool.false_and];exact Ev.step (f:=fun k=>some false) (fun k=>by simp [tag_valued.j0]) (Ev.now _)
theorem L_ext (s:ByteArray) (a b:Nat):L (s.extract a b)=((L s).take b).drop a:=by
 simp [L,ByteArray.data_extract,Array.toList_extract,List.drop_take]
theorem getD_L1 {s:ByteArray} {i:Nat} (h:i<s.size):bt s (i:Int)=(((L s).getD i 0).toNat:Int):=by
 rw [bt_L h,List.getD_eq_getElem?_getD,List.getElem?_eq_getElem (by rw [L_len];exact h)];rfl
def pc1 (s:ByteArray):Nat→Nat→Nat→List ByteArray
 |0,i,b=>[s.extract b i]
 |d+1,i,b=>if (L s).getD i 0=45 then s.extract b i :: pc1 s d (i+1) (i+1) else pc1 s d (i+1) b
def pp1 (s:ByteArray):Nat→Nat→Nat→List Int
 |0,i,b=>[(b:Int)]
 |d+1,i,b=>if (L s).getD i 0=45 then(b:Int) :: pp1 s d (i+1) (i+1) else pp1 s d (i+1) b
abbrev D1:ByteArray:=⟨#[45]⟩
theorem d1_0:bt D1 0=45:=by decide
theorem p1_j2 (s:ByteArray) (hs:s.size≤1048576) (xs:List ByteArray) (ys:List Int) (i b:Nat) (x:Bool) (hx:xs.length≤i) (hy:ys.length≤i) (hb:b≤i) (hi:i≤s.size) (n:Int):
 (fun k=>i7_Pieces.j2 (k+1) s D1 xs ys (b:Int) (i:Int) x n false)=fun k=>if x=true then i7_Pieces.l0 k s D1 (xs++[s.extract b i]) (ys++[(b:Int)]) ((i+1:Nat):Int) ((i+1:Nat):Int) else i7_Pieces.l0 k s D1 xs ys (b:Int) ((i+1:Nat):Int):=by
 funext k
 simp only [i7_Pieces.j2];rw [if_neg (by simp),w64 (by omega)]
 cases x with
 |true=>
  rw [if_pos rfl,if_pos rfl,if_pos (by omega),if_pos (by omega),if_pos (by omega),if_pos (by omega),if_pos (by omega)]
  rfl
 |false=>rw [if_neg (by simp),if_neg (by simp)];rfl
theorem p1_in (s:ByteArray) (hs:s.size≤1048576) (xs:List ByteArray) (ys:List Int) (i b:Nat) (c:UInt8) (hc:c=(L s).getD i 0) (hlt:i<s.size) (hx:xs.length≤i) (hy:ys.length≤i) (hb:b≤i) {r:List ByteArray×List Int}
 (h:Ev (fun k=>if c=45 then i7_Pieces.l0 k s D1 (xs++[s.extract b i]) (ys++[(b:Int)]) ((i+1:Nat):Int) ((i+1:Nat):Int) else i7_Pieces.l0 k s D1 xs ys (b:Int) ((i+1:Nat):Int)) r):
 Ev (fun k=>i7_Pieces.l1 k s D1 xs ys (b:Int) (i:Int) false 0) r:=by
 have hbt:bt s (i:Int)=(c.toNat:Int):=by rw [hc];exact getD_L1 hlt
 have hz:((D1.size:Nat):Int)=1:=rfl;have hq:((c.toNat:Int)==45)=decide (c=45):=by
  rw [Bool.eq_iff_iff];simp only [beq_iff_eq,decide_eq_true_eq];constructor
  ·intro h;exact UInt8.toNat_inj.1 (by show c.toNat=45;omega)
  ·intro h;subst h;rfl
 refine Ev.step (f:=fun k=>i7_Pieces.j2 k s D1 xs ys (b:Int) (i:Int) false 0 true) (fun k=>?_) (Ev.step (f:=fun k=>i7_Pieces.l1 k s D1 xs ys (b:Int) (i:Int) (decide (c=45)) 1) (fun k=>?_) (Ev.step (f:=fun k=>i7_Pieces.j2 k s D1 xs ys (b:Int) (i:Int) (decide (c=45)) 1 false) (fun k=>?_) ?_))
 ·simp only [i7_Pieces.l1]
  rw [hz,if_pos (by omega)];rfl
 ·simp only [i7_Pieces.j2]
  rw [if_pos trivial,if_pos (by omega),if_pos (by omega),if_pos (by omega),hz,if_pos (by omega),hbt,d1_0,hq,show wrap64 (0+1)=1 from w64 (by omega)]
 ·simp only [i7_Pieces.l1]
  rw [hz,if_neg (by omega)]
 ·refine Ev.step (f:=fun k=>if decide (c=45)=true then i7_Pieces.l0 k s D1 (xs++[s.extract b i]) (ys++[(b:Int)]) ((i+1:Nat):Int) ((i+1:Nat):Int) else i7_Pieces.l0 k s D1 xs ys (b:Int) ((i+1:Nat):Int)) (fun k=>congrFun (p1_j2 s hs xs ys i b _ hx hy hb (by omega) 1) k) ?_
  simpa using h
theorem p1_l (s:ByteArray) (hs:s.size≤1048576):∀ (d i b:Nat) (xs:List ByteArray) (ys:List Int),s.size - i=d→i≤s.size→b≤i→xs.length≤i→ys.length≤i→
 Ev (fun k=>i7_Pieces.l0 k s D1 xs ys (b:Int) (i:Int)) (xs++pc1 s d i b,ys++pp1 s d i b):=by
 intro d;induction d with
 | zero=>
  intro i b xs ys hd hi hb hx hy;have:i=s.size:=by omega
  subst this;have hz:((D1.size:Nat):Int)=1:=rfl;refine Ev.step (f:=fun k=>i7_Pieces.l1 k s D1 xs ys (b:Int) (s.size:Int) true 0) (fun k=>?_) (Ev.step (f:=fun k=>i7_Pieces.j2 k s D1 xs ys (b:Int) (s.size:Int) true 0 false) (fun k=>?_) (Ev.step (f:=fun k=>i7_Pieces.l0 k s D1 (xs++[s.extract b s.size]) (ys++[(b:Int)]) ((s.size+1:Nat):Int) ((s.size+1:Nat):Int)) (fun k=>?_) (Ev.step (f:=fun _=>some (xs++[s.extract b s.size],ys++[(b:Int)])) (fun k=>?_) (Ev.now _))))
  ·simp only [i7_Pieces.l0]
   rw [if_pos (by omega)];simp
  ·simp only [i7_Pieces.l1]
   rw [hz,if_pos (by omega)];rfl
  ·have:=congrFun (p1_j2 s hs xs ys s.size b true hx hy hb (by omega) 0) k
   rw [if_pos rfl] at this;exact this
  ·simp only [i7_Pieces.l0]
   rw [if_neg (by omega)]
 | succ d ih=>
  intro i b xs ys hd hi hb hx hy;have hlt:i<s.size:=by omega
  refine Ev.step (f:=fun k=>i7_Pieces.l1 k s D1 xs ys (b:Int) (i:Int) false 0) (fun k=>?_) (p1_in s hs xs ys i b _ rfl hlt hx hy hb ?_)
  ·simp only [i7_Pieces.l0]
   have:((i:Int)==(s.size:Int))=false:=by simp;omega
   rw [if_pos (by omega),this]
  ·unfold pc1 pp1
   by_cases hc:(L s).getD i 0=45
   ·simp only [if_pos hc]
    have:=ih (i+1) (i+1) (xs++[s.extract b i]) (ys++[(b:Int)]) (by omega) (by omega) (by omega) (by simp;omega) (by simp;omega)
    rw [List.append_assoc,List.append_assoc] at this;exact this
   ·simp only [if_neg hc]
    exact ih (i+1) b xs ys (by omega) (by omega) (by omega) (by omega) (by omega)
theorem pieces1_f (s:ByteArray) (hs:s.size≤1048576):Ev (fun k=>i7_Pieces.f k s D1) (pc1 s s.size 0 0,pp1 s s.size 0 0):=by
 have:=p1_l s hs s.size 0 0 [] [] (by omega) (by omega) (by omega) (by simp) (by simp)
 unfold i7_Pieces.f;simpa using this
def glue (p:Bs):List Bs→List Bs
 |[]=>[p]
 |h :: t=>(p++h) :: t
theorem glue_nil (l:Bs):glue [] (cutL 45 l)=cutL 45 l:=by
 obtain⟨h,t,e⟩:=cutL_ne 45 l;rw [e];rfl
theorem pc1_cut (s:ByteArray):∀ (d i b:Nat),s.size - i=d→i≤s.size→b≤i→(pc1 s d i b).map L=glue (((L s).take i).drop b) (cutL 45 ((L s).drop i)):=by
 intro d;induction d with
 |zero=>
  intro i b hd hi hb;have e:(L s).drop i=[]:=List.drop_eq_nil_of_le (by rw [L_len];omega)
  rw [e];show [L (s.extract b i)]=[((L s).take i).drop b++[]];rw [L_ext,List.append_nil]
 | succ d ih=>
  intro i b hd hi hb;have hlt:i<(L s).length:=by rw [L_len];omega
  have hg:(L s).getD i 0=(L s)[i]:=by rw [List.getD_eq_getElem?_getD,List.getElem?_eq_getElem hlt];rfl
  have e:(L s).drop i=(L s)[i] :: (L s).drop (i+1):=List.drop_eq_getElem_cons hlt;rw [e];unfold pc1 cutL;rw [hg];by_cases hc:(L s)[i]=45
  ·rw [if_pos hc,if_pos hc,List.map_cons,ih (i+1) (i+1) (by omega) (by omega) (Nat.le_refl _),L_ext]
   have e2:((L s).take (i+1)).drop (i+1)=[]:=List.drop_eq_nil_of_le (by rw [List.length_take];omega)
   rw [e2,glue_nil];show _=(((L s).take i).drop b++[]) :: _;rw [List.append_nil]
  ·rw [if_neg hc,if_neg hc,ih (i+1) b (by omega) (by omega) (by omega)]
   rw [List.take_succ_eq_append_getElem hlt,List.drop_append_of_le_length (by rw [List.length_take];omega)]
   obtain⟨h,t,e3⟩:=cutL_ne 45 ((L s).drop (i+1));rw [e3];show(((L s).take i).drop b++[(L s)[i]]++h) :: t=(((L s).take i).drop b++((L s)[i] :: h)) :: t;rw [List.append_assoc];rfl
theorem pc1_small (s:ByteArray):∀ (d i b:Nat),∀ p ∈ pc1 s d i b,p.size≤s.size:=by
 intro d;induction d with
 |zero=>
  intro i b p hp;obtain rfl:=List.mem_singleton.1 hp;rw [ext_size];omega
 | succ d ih=>
  intro i b p hp;unfold pc1 at hp;split at hp
  ·rcases List.mem_cons.1 hp with rfl|h
   ·rw [ext_size];omega
   ·exact ih _ _ p h
  ·exact ih _ _ p hp
theorem pc1_len (s:ByteArray):∀ (d i b:Nat),(pc1 s d i b).length≤d+1:=by
 intro d;induction d with
 |zero=>intro i b;simp [pc1]
 |succ d ih=>
  intro i b;unfold pc1;split
  ·have:=ih (i+1) (i+1);rw [List.length_cons];omega
  ·have:=ih (i+1) b;omega
theorem rvalue_l (s:ByteArray) (hs:s.size≤1048576) (xs:List ByteArray) (hn:xs.length≤1048577) (hz:∀ x ∈ xs,x.size≤1048576):
 Ev (fun k=>i7_value.l0 k s xs 0) (xs.all (fun x=>sgns (L x) 3 8)&&(decide (L s≠[116,114,117,101])&&decide (low s=s))):=by
 have:=ev_row (fun x=>sgns (L x) 3 8) (decide (L s≠[116,114,117,101])&&decide (low s=s)) (fun k i=>i7_value.l0 k s xs (i:Int)) xs 0 ?_ ?_ ?_
 ·simpa using this
 ·refine Ev.step (f:=fun _=>some (decide (L s≠[116,114,117,101])&&decide (low s=s))) (fun k=>?_) (Ev.now _)
  simp only [i7_value.l0];rw [if_neg (by omega),toList_L]
  by_cases h1:L s=[116,114,117,101]
  ·rw [if_pos h1,decide_eq_false (fun h=>h h1),Bool.false_and]
  ·rw [if_neg h1,decide_eq_true h1,Bool.true_and]
   have e:i7_Small.f s=some (low s):=by unfold i7_Small.f;rw [if_pos (by omega)];rfl
   rw [e];simp only [Option.bind_some,toList_L]
   congr 1
   by_cases h2:low s=s
   ·rw [decide_eq_true h2,h2];simp
   ·rw [decide_eq_false h2]
    simp only [beq_eq_false_iff_ne,ne_eq];exact fun e=>h2 (L_inj e)
 ·intro j x hx hp b hb
  obtain⟨h1,h2⟩:=rdOf_at hx;rw [Nat.zero_add] at hb ⊢;refine Ev.step (f:=fun k=>(i7_signs.f k x 3 8).bind fun t=>if t=true then i7_value.l0 k s xs ((j+1:Nat):Int) else some false) (fun k=>?_) ?_
  ·simp only [i7_value.l0]
   rw [if_pos (by omega),if_pos (by omega),h2,w64 (by omega)]
   rfl
  ·refine Ev.bind (rsigns_f x 3 8 (by have:=hz x (List.mem_of_getElem? hx);omega)) ?_
   rw [hp];exact hb
 ·intro j x hx hp
  obtain⟨h1,h2⟩:=rdOf_at hx;rw [Nat.zero_add];refine Ev.step (f:=fun k=>(i7_signs.f k x 3 8).bind fun t=>if t=true then i7_value.l0 k s xs ((j+1:Nat):Int) else some false) (fun k=>?_) ?_
  ·simp only [i7_value.l0]
   rw [if_pos (by omega),if_pos (by omega),h2,w64 (by omega)]
   rfl
  ·refine Ev.bind (rsigns_f x 3 8 (by have:=hz x (List.mem_of_getElem? hx);omega)) ?_
   rw [hp];exact Ev.now _
theorem value_f (s:ByteArray) (hs:s.size≤1048576):Ev (fun k=>i7_value.f k s) (valP s):=by
 unfold i7_value.f valP;rw [toList_L];by_cases h0:L s=[]
 ·rw [decide_eq_true h0];simp only [if_pos h0];exact Ev.now _
 ·rw [decide_eq_false h0,Bool.false_or];simp only [if_neg h0]
  refine Ev.bind (pieces1_f s hs) ?_;have e3:(pc1 s s.size 0 0).map L=cutL 45 (L s):=by
   rw [pc1_cut s s.size 0 0 (by omega) (by omega) (Nat.le_refl _)]
   exact glue_nil _
  have e4:=all_map (pc1 s s.size 0 0) (fun l=>sgns l 3 8);rw [e3] at e4;rw [← e4,Bool.and_comm];refine rvalue_l s hs _ ?_ (fun x hx=>Nat.le_trans (pc1_small _ _ _ _ x hx) hs);have:=pc1_len s s.size 0 0;show(pc1 s s.size 0 0).length≤1048577;omega
end Go.Proofs.YtphjhbppjakocaaGreatDoor.Pl
