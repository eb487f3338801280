/- Printed by a program (the kit's print.py with changes of this session) out of Lean's own print of the program: functions of the program as plain Lean functions, and that each call comes to what they say; conditions: those that each theorem states. Not trusted: Lean checks it. -/
import Derived.Test.YtphjhbppjakocaaGreatDoorWInv
import Derived.Test.YtphjhbppjakocaaGreatDoorShelf
import Derived.Test.YtphjhbppjakocaaGreatDoorWN
import Derived.Test.YtphjhbppjakocaaGreatDoorQCopied
import Derived.Test.YtphjhbppjakocaaGreatDoorPU16
set_option linter.unusedVariables false
set_option linter.unusedSimpArgs false
namespace Go.Proofs.YtphjhbppjakocaaGreatDoor.PTag
open Go.RowKit Go.Proofs.YtphjhbppjakocaaGreatDoorW.PrintWords Go.Proofs.YtphjhbppjakocaaGreatDoorW.PrintLast Go.Proofs.YtphjhbppjakocaaGreatDoorW.PrintMore
attribute [local go_sem] max2_int min2_int max_two min_two max_three min_three max_four min_four
attribute [local go_sem] setCell_drewN_ cell_put_twice_ gtr_less_
section
variable {P:Program} {md:Region.Mode} {ops:Array Oper} {Q:Exit→Act→World→Prop} {S:World→Prop} {ds:List Nat} {T:Bool×List (List Nat×List Nat)} {B:List Nat}
theorem st_ {id:Nat} {a:Act} {w:World} (n:Nat) (hT:rtab .any ops=T) (hB:waitsOk T.2 B=true) (hS:S w.drew) (h:S w.drew→Aside0 (rtab .any ops=T)→Aside0 (waitsOk T.2 B=true)→wpAnyLast P .any ops Q S ds n (bmp n 0) a w.drew) (hm:P.follows .mixedOrders=true:=by kernel_rfl) (hn:ops.size=n:=by rfl) (hl:Array.replicate n false=bmp n 0:=by rfl):(Code.region id ops true).wp P Q a w:=
 start_ (bmp n 0) hm hn hl hS (fun hH=>h hH ⟨hT⟩ ⟨hB⟩)
theorem on_ {n i j fuel:Nat} {oi:Oper} {N:Option Tmp} {a:Act} {w:World} (hT:Aside0 (rtab md ops=T))
 (h:∀ K:Act→World→Prop,Shut (∀ a' w',S w'→(S w'→wpAnyLast P md ops Q S ds fuel (bmp n j) a' w')→K a' w')→if Region.wanted oi (yielded ops a.tmps)=true then Oper.wp P oi a w K Q else K (a.put N undef) w)
 (hi:ops[i]?=some oi:=by rfl) (hN:oi.dst=N:=by ((conv=>lhs;whnf);try rfl)) (hc:(readyT T.2 (bmp n i).toList==[i]&&(bmp n i).toList.set i true==(bmp n (i+1)).toList)=true:=by kernel_rfl) (hd:i ∉ ds:=by decide) (hj:i+1=j:=by (simp only [Nat.reduceAdd];rfl)):
 wpAnyLast P md ops Q S ds (fuel+1) (bmp n i) a w:=by
 subst hj;exact one_ (bmp n (i+1)) hi hN (one_of hT.out hc) hd h
theorem la_ {n i j fuel:Nat} {oi:Oper} {N:Option Tmp} {a:Act} {w:World} (hT:Aside0 (rtab md ops=T))
 (h:∀ K:Act→World→Prop,Shut (∀ a' w',wpAnyLast P md ops Q S ds fuel (bmp n j) a' w'→K a' w')→if Region.wanted oi (yielded ops a.tmps)=true then Oper.wp P oi a w K Q else K (a.put N undef) w)
 (hi:ops[i]?=some oi:=by rfl) (hN:oi.dst=N:=by ((conv=>lhs;whnf);try rfl)) (hc:(readyT T.2 (bmp n i).toList==[i]&&(bmp n i).toList.set i true==(bmp n (i+1)).toList)=true:=by kernel_rfl) (hd:i ∈ ds:=by decide) (hj:i+1=j:=by (simp only [Nat.reduceAdd];rfl)):
 wpAnyLast P md ops Q S ds (fuel+1) (bmp n i) a w:=by
 subst hj;exact last_ (bmp n (i+1)) hi hN (one_of hT.out hc) hd h
theorem dn_ {n i fuel:Nat} {a:Act} {w:World} (hT:Aside0 (rtab md ops=T)) (h:Q .normal a w) (hc:(readyT T.2 (bmp n i).toList==[])=true:=by kernel_rfl):wpAnyLast P md ops Q S ds fuel (bmp n i) a w:=done_ (done_of hT.out hc) h
theorem nn_ {fuel:Nat} {l:Array Bool} {a a':Act} {N0:Option Tmp} {v:Value} {w:World} (N:Option Tmp) (h:wpAnyLast P md ops Q S ds fuel l a' w) (hN:N0=N:=by rfl) (ha:a.put N v=a':=by (simp only [Act.put,List.setIfInBounds_toArray,List.set_cons_zero,List.set_cons_succ,i64_w,i32_w];rfl)):wpAnyLast P md ops Q S ds fuel l (a.put N0 v) w:=by
 subst hN;exact norm_ ha h
end
theorem drawn_below {W W1:World} (h:Drawn0 W W1):Below W.heap.size W W1:=by
 obtain⟨m,rfl⟩:=h;exact pw_below_drewN (Below.refl _ _) m
def nowT:List S89→ByteArray
 |[]=>⟨#[]⟩
 |p :: _=>p.f0
def nowAt (e:Int):List S89→Int
 |[]=>e
 |p :: _=>p.f1
theorem drop_end {α:Type} {l:List α} {i:Nat} (h:i≤l.length) (he:(i:Int)=(l.length:Int)):l.drop i=[]:=List.drop_eq_nil_of_le (by omega)
theorem drop_here {l:List S89} {i:Nat} (h:i<l.length):l.drop i=rd_T89 l i :: l.drop (i+1):=by
 rw [List.drop_eq_getElem_cons h];congr 1;unfold rd_T89;simp [List.getD_eq_getElem?_getD,List.getElem?_eq_getElem h]
def RdB (W:World) (g:Nat) (A0:Option Addr) (n c0:Nat) (i:Int) (l s r:ByteArray) (V3 V4:Value):Prop:=
 W.heap[g]?=some (.cells #[.slice A0 n c0,.int .i64 i,.string l,.string s,.string r,V3,V4] 67 (0,0))
theorem RdB.below {W W1:World} {g:Nat} {A0:Option Addr} {n c0:Nat} {i:Int} {l s r:ByteArray} {V3 V4:Value} (h:RdB W g A0 n c0 i l s r V3 V4) (hb:Below W.heap.size W W1):RdB W1 g A0 n c0 i l s r V3 V4:=blk_below h hb
theorem RdB.drawn {W W1:World} {g:Nat} {A0:Option Addr} {n c0:Nat} {i:Int} {l s r:ByteArray} {V3 V4:Value} (h:RdB W g A0 n c0 i l s r V3 V4) (hd:Drawn0 W W1):RdB W1 g A0 n c0 i l s r V3 V4:=by
 obtain⟨m,rfl⟩:=hd;exact blk_drewN h m
theorem RdB.cells {W:World} {g:Nat} {A0:Option Addr} {n c0:Nat} {i:Int} {l s r:ByteArray} {V3 V4:Value} (h:RdB W g A0 n c0 i l s r V3 V4):
 W.cell? ⟨g,0,none⟩=some (.slice A0 n c0)∧W.cell? ⟨g,1,none⟩=some (.int .i64 i)∧W.cell? ⟨g,5,none⟩=some V3∧W.cell? ⟨g,6,none⟩=some V4∧W.frozen? ⟨g,1,none⟩=false∧W.frozen? ⟨g,5,none⟩=false∧W.frozen? ⟨g,6,none⟩=false:=
 ⟨(blk_cell h 0).trans rfl,(blk_cell h 1).trans rfl,(blk_cell h 5).trans rfl,(blk_cell h 6).trans rfl,blk_frozen h 1,blk_frozen h 5,blk_frozen h 6⟩
set_option maxHeartbeats 4000000 in
set_option maxRecDepth 100000 in
theorem now_ (g c0:Nat) (A0:Option Addr) (ps:List S89) (i:Nat) (l s r:ByteArray) (V3 V4:Value) (w0 w:World) (hR:RdB w g A0 ps.length c0 (i:Int) l s r V3 V4) (hC:Kd.C k89 w0 A0 ps.length ps) (hB:Below w0.heap.size w0 w) (hi:i≤ps.length):
 Calls Tryz.prog 75 #[.pointer (some ⟨g,0,none⟩)] w fun e w'=>e=.returned (.string (nowT (ps.drop i)))∧Drawn0 w w':=by
 obtain⟨z0,z1,_,_,_,_,_⟩:=hR.cells;have HB:=ak_ hB;have HC:=ak_ hC;have HI:=ak_ hi;clear hR hC hB hi;by_cases c1:(i:Int)=(ps.length:Int)
 ·rw [drop_end HI.out c1]
  have aA:((i:Int)==(ps.length:Int))=true:=beq_iff_eq.mpr c1;clear c1
  go_enter Tryz.func75,Tryz.ntmps75
  go_wp2
  repeat (go_quiet (fail);try go_wp2)
  go_ret
  exact⟨rfl,by repeat (first|exact Drawn0.refl _|apply Drawn0.step)⟩
 ·have hlt:i<ps.length:=by have:=HI.out;omega
  rw [drop_here hlt];have aA:((i:Int)==(ps.length:Int))=false:=beq_eq_false_iff_ne.mpr c1;have hlt':((i:Int)<(ps.length:Int)):=by omega
  have h0:(0:Int)≤(i:Int):=by omega
  obtain⟨ad,e1,x0,x1⟩:=at_T89 HC.out (i:Int) h0 hlt';cases e1;replace x0:=pw_cell_below HB.out x0;clear x1;have p1:=eq_true h0;have q1:=eq_true hlt';clear c1 h0 hlt' hlt;generalize (i:Int)=j at*
  go_enter Tryz.func75,Tryz.ntmps75
  go_wp2
  repeat (go_quiet (fail);try go_wp2)
  go_ret
  exact⟨rfl,by repeat (first|exact Drawn0.refl _|apply Drawn0.step)⟩
theorem now2_ (g c0:Nat) (A0:Option Addr) (ps:List S89) (i:Nat) (l s r:ByteArray) (V3 V4:Value) (w0 w:World) (x:ByteArray) (hR:RdB w g A0 ps.length c0 (i:Int) l s r V3 V4) (hC:Kd.C k89 w0 A0 ps.length ps) (hB:Below w0.heap.size w0 w) (hi:i≤ps.length) (hx:nowT (ps.drop i)=x):
 Calls Tryz.prog 75 #[.pointer (some ⟨g,0,none⟩)] w fun e w'=>e=.returned (.string x)∧Drawn0 w w':=hx▸now_ g c0 A0 ps i l s r V3 V4 w0 w hR hC hB hi
set_option maxHeartbeats 4000000 in
set_option maxRecDepth 100000 in
theorem at_ (b1 b2 g c0:Nat) (en:Int) (A0:Option Addr) (ps:List S89) (i:Nat) (l s r:ByteArray) (V3 V4:Value) (w0 w:World) (hb1:w.cell? ⟨b1,0,none⟩=some (.pointer (some ⟨g,0,none⟩))) (hb2:w.cell? ⟨b2,0,none⟩=some (.int .i64 en)) (hR:RdB w g A0 ps.length c0 (i:Int) l s r V3 V4) (hC:Kd.C k89 w0 A0 ps.length ps) (hB:Below w0.heap.size w0 w) (hi:i≤ps.length):
 Calls Tryz.prog 72 #[.pointer (some ⟨b1,0,none⟩),.pointer (some ⟨b2,0,none⟩)] w fun e w'=>e=.returned (.int .i64 (nowAt en (ps.drop i)))∧Drawn0 w w':=by
 obtain⟨z0,z1,_,_,_,_,_⟩:=hR.cells;have HB:=ak_ hB;have HC:=ak_ hC;have HI:=ak_ hi;clear hR hC hB hi;by_cases c1:(i:Int)=(ps.length:Int)
 ·rw [drop_end HI.out c1]
  have aA:((i:Int)==(ps.length:Int))=true:=beq_iff_eq.mpr c1;clear c1
  go_enter Tryz.func72,Tryz.ntmps72
  go_wp2
  repeat (go_quiet (fail);try go_wp2)
  go_ret
  exact⟨rfl,by repeat (first|exact Drawn0.refl _|apply Drawn0.step)⟩
 ·have hlt:i<ps.length:=by have:=HI.out;omega
  rw [drop_here hlt];have aA:((i:Int)==(ps.length:Int))=false:=beq_eq_false_iff_ne.mpr c1;have hlt':((i:Int)<(ps.length:Int)):=by omega
  have h0:(0:Int)≤(i:Int):=by omega
  obtain⟨ad,e1,x0,x1⟩:=at_T89 HC.out (i:Int) h0 hlt';cases e1;replace x1:=pw_cell_below HB.out x1;clear x0;have p1:=eq_true h0;have q1:=eq_true hlt';clear c1 h0 hlt' hlt;generalize (i:Int)=j at*
  go_enter Tryz.func72,Tryz.ntmps72
  go_wp2
  repeat (go_quiet (fail);try go_wp2)
  go_ret
  exact⟨rfl,by repeat (first|exact Drawn0.refl _|apply Drawn0.step)⟩
def StV (w0 wS W:World) (g:Nat) (A0:Option Addr) (n c0:Nat) (i:Int) (l s r:ByteArray) (V3 V4:Value) (vs:List ByteArray):Prop:=
 RdB W g A0 n c0 i l s r V3 V4∧Kd.R Kd.string 9 W w0.heap.size (fun k=>wS.heap.size≤k) V3 vs∧Below w0.heap.size w0 W∧w0.heap.size≤g∧KeepBut wS W g none
section
variable {w0 wS W W1:World} {g:Nat} {A0:Option Addr} {n c0:Nat} {i:Int} {l s r:ByteArray} {V3 V4:Value} {vs:List ByteArray}
theorem keepBelow (h:KeepBut wS W g none) (hb:Below W.heap.size W W1):KeepBut wS W1 g none:=h.trans (KeepBut.of_below hb g none) (.inl rfl)
theorem keepGrown {V:Value} (h:KeepBut wS W g none) (hg:W.grownBy W1 V.ownBlock) (ho:∀ k,V.ownBlock=some k→wS.heap.size≤k):KeepBut wS W1 g none:=h.trans (KeepBut.of_grown hg g) (by
 cases hv:V.ownBlock with
 |none=>exact .inl rfl
 |some b=>exact .inr ⟨b,rfl,ho b hv⟩)
theorem StV.below (h:StV w0 wS W g A0 n c0 i l s r V3 V4 vs) (hb:Below W.heap.size W W1):StV w0 wS W1 g A0 n c0 i l s r V3 V4 vs:=
 ⟨h.1.below hb,Kd.R_below h.2.1 hb,below_step h.2.2.1 hb,h.2.2.2.1,keepBelow h.2.2.2.2 hb⟩
theorem StV.drawn (h:StV w0 wS W g A0 n c0 i l s r V3 V4 vs) (hd:Drawn0 W W1):StV w0 wS W1 g A0 n c0 i l s r V3 V4 vs:=h.below (drawn_below hd)
theorem StV.step (h:StV w0 wS W g A0 n c0 i l s r V3 V4 vs) (j:Int):StV w0 wS (W.setCell ⟨g,1,none⟩ (.int .i64 j)) g A0 n c0 j l s r V3 V4 vs:=
 ⟨(blk_set h.1 1 (.int .i64 j)).trans rfl,Kd.R_set h.2.1 h.1 (by decide) 1 _,below_set h.2.2.1 h.2.2.2.1,h.2.2.2.1,KeepBut.set_ h.2.2.2.2 1 _⟩
end
def varsF (k:Nat):List S89→List ByteArray→Option (Int×List S89×List ByteArray)
 |[],vs=>(tag_variant.f k ⟨#[]⟩).bind fun b=>if b=true then none else some (0,[],vs)
 |p :: ps,vs=>(tag_variant.f k p.f0).bind fun b=>if b=true then(tag_lower.f p.f0).bind fun v=>(slices_Contains_string_string.f vs v).bind fun c=>if c=true then some (6,p :: ps,vs) else if vs.length=64 then some (5,p :: ps,vs) else if vs.length<8796093022208 then varsF k ps (vs++[v]) else none else some (0,p :: ps,vs)
theorem varsF_cons {k:Nat} {p:S89} {ps:List S89} {vs:List ByteArray} {res:Int×List S89×List ByteArray} (h:varsF k (p :: ps) vs=some res):
 (tag_variant.f k p.f0=some false∧res=(0,p :: ps,vs))∨(tag_variant.f k p.f0=some true∧∃ v c,tag_lower.f p.f0=some v∧slices_Contains_string_string.f vs v=some c∧
  ((c=true∧res=(6,p :: ps,vs))∨(c=false∧((vs.length=64∧res=(5,p :: ps,vs))∨(vs.length≠64∧vs.length<8796093022208∧varsF k ps (vs++[v])=some res))))):=by
 simp only [varsF] at h;obtain⟨b,hb,h⟩:=Option.bind_eq_some_iff.1 h;cases b with
 |false=>exact .inl ⟨hb,by simpa using h.symm⟩
 | true=>
  rw [if_pos rfl] at h;obtain⟨v,hv,h⟩:=Option.bind_eq_some_iff.1 h;obtain⟨c,hc,h⟩:=Option.bind_eq_some_iff.1 h;refine .inr ⟨hb,v,c,hv,hc,?_⟩;cases c with
  |true=>exact .inl ⟨rfl,by simpa using h.symm⟩
  | false=>
   rw [if_neg (by simp)] at h
   refine .inr ⟨rfl,?_⟩;by_cases h6:vs.length=64
   ·rw [if_pos h6] at h;exact .inl ⟨h6,by simpa using h.symm⟩
   ·rw [if_neg h6] at h
    by_cases h7:vs.length<8796093022208
    ·rw [if_pos h7] at h;exact .inr ⟨h6,h7,h⟩
    ·rw [if_neg h7] at h;cases h
theorem varsF_nil {k:Nat} {vs:List ByteArray} {res:Int×List S89×List ByteArray} (h:varsF k [] vs=some res):tag_variant.f k ⟨#[]⟩=some false∧res=(0,[],vs):=by
 simp only [varsF] at h;obtain⟨b,hb,h⟩:=Option.bind_eq_some_iff.1 h;cases b with
 |true=>simp at h
 |false=>exact ⟨hb,by simpa using h.symm⟩
theorem wrapNext {i n:Nat} (h:i<n) (hn:n≤9223372036854775807):wrap64 ((i:Int)+1)=((i+1:Nat):Int):=by
 unfold wrap64;omega
theorem varsStep {w0 wS W:World} {g:Nat} {A0:Option Addr} {n c0 i m cn:Nat} {j:Int} {l s r:ByteArray} {V3 V4:Value} {An:Option Addr} {vs:List ByteArray} (h:RdB W g A0 n c0 (i:Int) l s r V3 V4) (ho:Kd.R Kd.string 9 W w0.heap.size (fun k=>wS.heap.size≤k) (.slice An m cn) vs) (hb:Below w0.heap.size w0 W) (hg:w0.heap.size≤g) (hk:KeepBut wS W g none) (hj:j=((i+1:Nat):Int)):
 StV w0 wS ((W.setCell ⟨g,5,none⟩ (.slice An m cn)).setCell ⟨g,1,none⟩ (.int .i64 j)) g A0 n c0 ((i+1:Nat):Int) l s r (.slice An m cn) V4 vs:=by
 subst hj;have h1:RdB (W.setCell ⟨g,5,none⟩ (.slice An m cn)) g A0 n c0 (i:Int) l s r (.slice An m cn) V4:=(blk_set h 5 (.slice An m cn)).trans rfl;have h2:StV w0 wS (W.setCell ⟨g,5,none⟩ (.slice An m cn)) g A0 n c0 (i:Int) l s r (.slice An m cn) V4 vs:=⟨h1,Kd.R_set ho h (by decide) 5 _,below_set hb hg,hg,KeepBut.set_ hk 5 _⟩
 exact h2.step _
structure VarsPost (w0 wS w':World) (g:Nat) (A0:Option Addr) (c0:Nat) (ps:List S89) (l s r:ByteArray) (V4:Value) (res:Int×List S89×List ByteArray):Prop where
 out:∃ (i':Nat) (V3':Value),i'≤ps.length∧res.2.1=ps.drop i'∧StV w0 wS w' g A0 ps.length c0 (i':Int) l s r V3' V4 res.2.2
theorem VarsPost.of {w0 wS w':World} {g:Nat} {A0:Option Addr} {c0:Nat} {ps:List S89} {l s r:ByteArray} {V4:Value} {e:Int} {rest:List S89} {vs:List ByteArray} (i':Nat) (V3':Value) (h1:i'≤ps.length) (h2:rest=ps.drop i') (h3:StV w0 wS w' g A0 ps.length c0 (i':Int) l s r V3' V4 vs):VarsPost w0 wS w' g A0 c0 ps l s r V4 (e,rest,vs):=⟨i',V3',h1,h2,h3⟩
set_option maxHeartbeats 8000000 in
set_option maxRecDepth 100000 in
theorem variants_ (k g c0:Nat) (A0:Option Addr) (ps:List S89) (i:Nat) (l s r:ByteArray) (V3 V4:Value) (vs:List ByteArray) (res:Int×List S89×List ByteArray) (w0 wS w:World) (hS:StV w0 wS w g A0 ps.length c0 (i:Int) l s r V3 V4 vs) (hC:Kd.C k89 w0 A0 ps.length ps) (hi:i≤ps.length) (h:varsF k (ps.drop i) vs=some res):
 Calls Tryz.prog 74 #[.pointer (some ⟨g,0,none⟩)] w fun e w'=>e=.returned (.int .i64 res.1)∧VarsPost w0 wS w' g A0 c0 ps l s r V4 res:=by
 have HS:=ak_ hS;have HC:=ak_ hC;have HI:=ak_ hi;have H:=ak_ h;clear hS hC hi h
 go_enter Tryz.func74,Tryz.ntmps74
 go_wp2
 go_loopg [] (ps.length+1) (fun kq w'=>∃ (i:Nat) (V3:Value) (vs:List ByteArray),Aside0 (ps.length+1≤kq+i)∧Aside0 (i≤ps.length)∧Aside0 (StV w0 wS w' g A0 ps.length c0 (i:Int) l s r V3 V4 vs)∧Aside0 (varsF k (ps.drop i) vs=some res))
 case atStart=>exact ⟨i,V3,vs,⟨Nat.le_add_right _ _⟩,HI,HS,H⟩
 case round=>
  obtain⟨i,V3,vs,HK,HI,HS,H⟩:=hrel;cases gk with
  |zero=>exact absurd HK.out (by have:=HI.out;omega)
  | succ k1=>
   by_cases hlt:i<ps.length
   ·have hd:=drop_here hlt
    have h:=H.out;rw [hd] at h;have HX:=ak_ (congrArg nowT hd);have HD:=ak_ hd;have HLT:=ak_ hlt;clear hd H hlt;rcases varsF_cons h with ⟨hv,rfl⟩|⟨hv,v,c,hl,hc,h⟩
    ·have HV:=ak_ hv
     clear hv h
     go_wp2_with (first
      |(go_at_call 75;refine(now2_ g c0 A0 ps i l s r V3 V4 w0 _ _ HS.out.1 HC.out HS.out.2.2.1 HI.out HX.out).mono ?_;rintro e w1 ⟨rfl,hd⟩;have HS':=ak_ (HS.out.drawn hd);clear HS hd;have HS:=HS';clear HS')
      |(go_at_call 57;refine(tag_variant.calls k _ _ _ HV.out).mono ?_;rintro e w1 ⟨rfl,hd⟩;have HS':=ak_ (HS.out.drawn hd);clear HS hd;have HS:=HS';clear HS'))
     go_ret
     exact⟨rfl,.of i V3 HI.out HD.out.symm HS.out⟩
    ·have HV:=ak_ hv
     have HL:=ak_ hl;have HCC:=ak_ hc;clear hv hl hc;have H:=ak_ h;clear h
     go_upto_region 3 with (first
      |(go_at_call 75;refine(now2_ g c0 A0 ps i l s r V3 V4 w0 _ _ HS.out.1 HC.out HS.out.2.2.1 HI.out HX.out).mono ?_;rintro e w1 ⟨rfl,hd⟩;have HS':=ak_ (HS.out.drawn hd);clear HS hd;have HS:=HS';clear HS')
      |(go_at_call 57;refine(tag_variant.calls k _ _ _ HV.out).mono ?_;rintro e w1 ⟨rfl,hd⟩;have HS':=ak_ (HS.out.drawn hd);clear HS hd;have HS:=HS';clear HS')
      |(go_at_call 44;refine(tag_lower.calls _ _ _ HL.out).mono ?_;rintro e w1 ⟨rfl,hb⟩;have HS':=ak_ (HS.out.below hb);clear HS hb;have HS:=HS';clear HS'))
     obtain⟨A3,c3,rfl,hc3,hC3⟩:=Kd.R_reads HS.out.2.1;have HC3:=ak_ hC3;have Hc3:=ak_ hc3;clear hC3 hc3;obtain⟨_,z1,z5,_,f1,f5,_⟩:=HS.out.1.cells;rcases H.out with ⟨rfl,rfl⟩|⟨rfl,h⟩
     ·clear H
      go_wp2_with (go_at_call 38;refine(slices_Contains_string_string.calls A3 c3 vs v _ _ HC3.out Hc3.out HCC.out).mono ?_;rintro e w2 ⟨rfl,hb⟩;have HS':=ak_ (HS.out.below hb);clear HS hb;have HS:=HS';clear HS')
      go_ret
      exact⟨rfl,.of i _ HI.out HD.out.symm HS.out⟩
     ·rcases h with ⟨h6,rfl⟩|⟨h6,h7,h⟩
      ·have h6a:((vs.length:Int)==64)=true:=by simp [h6]
       clear H h6
       go_wp2_with (go_at_call 38;refine(slices_Contains_string_string.calls A3 c3 vs v _ _ HC3.out Hc3.out HCC.out).mono ?_;rintro e w2 ⟨rfl,hb⟩;have HS':=ak_ (HS.out.below hb);clear HS hb;have HS:=HS';clear HS' z1 z5 f1 f5;obtain⟨_,z1,z5,_,f1,f5,_⟩:=HS.out.1.cells)
       go_ret
       exact⟨rfl,.of i _ HI.out HD.out.symm HS.out⟩
      ·have h6a:((vs.length:Int)==64)=false:=by simp;omega
       have h6b:decide ((vs.length:Int)=64)=false:=by simp;omega
       have H6:=ak_ h6;have H7:=ak_ h7;clear H;have H:=ak_ h;clear h h6 h7
       go_wp2_with (first
        |(go_at_call 38;refine(slices_Contains_string_string.calls A3 c3 vs v _ _ HC3.out Hc3.out HCC.out).mono ?_;rintro e w2 ⟨rfl,hb⟩;have HS':=ak_ (HS.out.below hb);clear HS hb;have HS:=HS';clear HS' z1 z5 f1 f5;obtain⟨_,z1,z5,_,f1,f5,_⟩:=HS.out.1.cells)
        |((with_reducible refine gate_builtin (b:=.append) (xs:=#[.tmp 31,.tmp 33]) rfl ?_);at_builtin;refine Kd.R_append Kd.string (w0:=w0) w0.heap.size rfl (.tmp 31) (.tmp 33) 22 9 (.string ⟨#[]⟩) 16 rfl Tryz.underlying22 info9 rfl (by decide) (by omega) (.slice A3 vs.length c3) vs v [.string v] (fun k=>wS.heap.size≤k) (fun _=>False) rfl (by first|(go_simp;done)|(go_simp;rfl)) ?aP (fun _ hk=>hk.elim) ?aF ?aO ?aB ?aS ?aL ?_;(case aP=>exact rfl);(case aB=>exact HS.out.2.2.1);(case aF=>exact (fun _ hk=>Nat.le_trans HS.out.2.2.2.2.1 hk));(case aO=>exact HS.out.2.1);(case aS=>exact HS.out.2.2.1.size);(case aL=>have:=H7.out;omega);intro Vn w3 ho hb hg hat;obtain⟨An,cn,rfl⟩:=Kd.R_slice ho;have hR:=blk_grown HS.out.1 hg (Kd.R_ne HS.out.2.1 HS.out.1 (by decide));have hge:=HS.out.2.2.2.1;have hkp:=keepGrown HS.out.2.2.2.2 hg HS.out.2.1.1;clear HS;have HS:=ak_ hR;have HO:=ak_ ho;have HB3:=ak_ hb;have HGE:=ak_ hge;have HKP:=ak_ hkp;clear hR ho hb hg hat hge hkp z1 z5 f1 f5;obtain⟨_,z1,z5,_,f1,f5,_⟩:=RdB.cells HS.out))
       go_roundg k1
       case measure=>omega
       case rel=>exact ⟨i+1,_,vs++[v],⟨by have:=HK.out;omega⟩,⟨HLT.out⟩,⟨varsStep HS.out (by have h_:=HO.out;simp only [List.length_append,List.length_cons,List.length_nil] at h_;exact h_) HB3.out HGE.out HKP.out (wrapNext HLT.out HC.out.2.1)⟩,⟨H.out⟩⟩
   ·have hd:ps.drop i=[]:=List.drop_eq_nil_of_le (by omega)
    have h:=H.out;rw [hd] at h;have HX:=ak_ (congrArg nowT hd);have HD:=ak_ hd;clear hd H hlt;obtain⟨hv,rfl⟩:=varsF_nil h;have HV:=ak_ hv;clear hv h
    go_wp2_with (first
     |(go_at_call 75;refine(now2_ g c0 A0 ps i l s r V3 V4 w0 _ _ HS.out.1 HC.out HS.out.2.2.1 HI.out HX.out).mono ?_;rintro e w1 ⟨rfl,hd⟩;have HS':=ak_ (HS.out.drawn hd);clear HS hd;have HS:=HS';clear HS')
     |(go_at_call 57;refine(tag_variant.calls k _ _ _ HV.out).mono ?_;rintro e w1 ⟨rfl,hd⟩;have HS':=ak_ (HS.out.drawn hd);clear HS hd;have HS:=HS';clear HS'))
    go_ret
    exact⟨rfl,.of i V3 HI.out HD.out.symm HS.out⟩
def keyvF (k:Nat):List S89→List ByteArray→Option (List S89×List ByteArray)
 |[],v=>(tag_signs.f k ⟨#[]⟩ 3 8).bind fun b=>if b=true then none else some ([],v)
 |p :: ps,v=>(tag_signs.f k p.f0 3 8).bind fun b=>if b=true then(tag_lower.f p.f0).bind fun x=>if v.length<8796093022208 then keyvF k ps (v++[x]) else none else some (p :: ps,v)
theorem keyvF_nil {k:Nat} {v:List ByteArray} {res:List S89×List ByteArray} (h:keyvF k [] v=some res):tag_signs.f k ⟨#[]⟩ 3 8=some false∧res=([],v):=by
 simp only [keyvF] at h;obtain⟨b,hb,h⟩:=Option.bind_eq_some_iff.1 h;cases b with
 |true=>simp at h
 |false=>exact ⟨hb,by simpa using h.symm⟩
theorem keyvF_cons {k:Nat} {p:S89} {ps:List S89} {v:List ByteArray} {res:List S89×List ByteArray} (h:keyvF k (p :: ps) v=some res):
 (tag_signs.f k p.f0 3 8=some false∧res=(p :: ps,v))∨(tag_signs.f k p.f0 3 8=some true∧∃ x,tag_lower.f p.f0=some x∧v.length<8796093022208∧keyvF k ps (v++[x])=some res):=by
 simp only [keyvF] at h;obtain⟨b,hb,h⟩:=Option.bind_eq_some_iff.1 h;cases b with
 |false=>exact .inl ⟨hb,by simpa using h.symm⟩
 |true=>
  rw [if_pos rfl] at h;obtain⟨x,hx,h⟩:=Option.bind_eq_some_iff.1 h;by_cases h7:v.length<8796093022208
  ·rw [if_pos h7] at h;exact .inr ⟨hb,x,hx,h7,h⟩
  ·rw [if_neg h7] at h;cases h
def keptVal (v:ByteArray):ByteArray:=if v.toList=[116,114,117,101] then⟨#[]⟩ else v
def hasName (ks:List S39) (nm:ByteArray):Bool:=ks.any fun x=>x.f0.toList==nm.toList
def keysF (k:Nat):Nat→List S89→List S39→Option (Int×List S89×List S39)
 |0,_,_=>none
 |_+1,[],ks=>(tag_signs.f k ⟨#[]⟩ 2 2).bind fun b=>if b=true then none else some (0,[],ks)
 |n+1,p :: ps,ks=>(tag_signs.f k p.f0 2 2).bind fun b=>if b=true then(tag_lower.f p.f0).bind fun nm=>if hasName ks nm=true then some (6,p :: ps,ks) else if ks.length=64 then some (5,p :: ps,ks) else
  (keyvF k ps []).bind fun q=>(strings_Join.f q.2 ⟨#[45]⟩).bind fun v=>if ks.length<4398046511104 then keysF k n q.1 (ks++[⟨nm,keptVal v⟩]) else none else some (0,p :: ps,ks)
theorem keysF_nil {k n:Nat} {ks:List S39} {res:Int×List S89×List S39} (h:keysF k (n+1) [] ks=some res):tag_signs.f k ⟨#[]⟩ 2 2=some false∧res=(0,[],ks):=by
 simp only [keysF] at h;obtain⟨b,hb,h⟩:=Option.bind_eq_some_iff.1 h;cases b with
 |true=>simp at h
 |false=>exact ⟨hb,by simpa using h.symm⟩
theorem keysF_cons {k n:Nat} {p:S89} {ps:List S89} {ks:List S39} {res:Int×List S89×List S39} (h:keysF k (n+1) (p :: ps) ks=some res):
 (tag_signs.f k p.f0 2 2=some false∧res=(0,p :: ps,ks))∨(tag_signs.f k p.f0 2 2=some true∧∃ nm,tag_lower.f p.f0=some nm∧
  ((hasName ks nm=true∧res=(6,p :: ps,ks))∨(hasName ks nm=false∧((ks.length=64∧res=(5,p :: ps,ks))∨(ks.length≠64∧∃ q v,keyvF k ps []=some q∧strings_Join.f q.2 ⟨#[45]⟩=some v∧ks.length<4398046511104∧keysF k n q.1 (ks++[⟨nm,keptVal v⟩])=some res))))):=by
 simp only [keysF] at h;obtain⟨b,hb,h⟩:=Option.bind_eq_some_iff.1 h;cases b with
 |false=>exact .inl ⟨hb,by simpa using h.symm⟩
 | true=>
  rw [if_pos rfl] at h;obtain⟨nm,hn,h⟩:=Option.bind_eq_some_iff.1 h;refine .inr ⟨hb,nm,hn,?_⟩;cases hh:hasName ks nm with
  |true=>rw [if_pos hh] at h;exact .inl ⟨rfl,by simpa using h.symm⟩
  | false=>
   rw [if_neg (by simp [hh])] at h
   refine .inr ⟨rfl,?_⟩;by_cases h6:ks.length=64
   ·rw [if_pos h6] at h;exact .inl ⟨h6,by simpa using h.symm⟩
   ·rw [if_neg h6] at h
    obtain⟨q,hq,h⟩:=Option.bind_eq_some_iff.1 h;obtain⟨v,hv,h⟩:=Option.bind_eq_some_iff.1 h;by_cases h7:ks.length<4398046511104
    ·rw [if_pos h7] at h;exact .inr ⟨h6,q,v,hq,hv,h7,h⟩
    ·rw [if_neg h7] at h;cases h
def StK (w0 wS W:World) (g:Nat) (A0:Option Addr) (n c0:Nat) (i:Int) (l s r:ByteArray) (V3 V4:Value) (vs:List ByteArray) (ks:List S39):Prop:=
 RdB W g A0 n c0 i l s r V3 V4∧Kd.R Kd.string 9 W w0.heap.size (fun _=>True) V3 vs∧Kd.R k39 39 W w0.heap.size (fun k=>wS.heap.size≤k) V4 ks∧Below w0.heap.size w0 W∧w0.heap.size≤g∧KeepBut wS W g none
section
variable {w0 wS W W1:World} {g:Nat} {A0:Option Addr} {n c0:Nat} {i:Int} {l s r:ByteArray} {V3 V4:Value} {vs:List ByteArray} {ks:List S39}
theorem StK.below (h:StK w0 wS W g A0 n c0 i l s r V3 V4 vs ks) (hb:Below W.heap.size W W1):StK w0 wS W1 g A0 n c0 i l s r V3 V4 vs ks:=
 ⟨h.1.below hb,Kd.R_below h.2.1 hb,Kd.R_below h.2.2.1 hb,below_step h.2.2.2.1 hb,h.2.2.2.2.1,keepBelow h.2.2.2.2.2 hb⟩
theorem StK.drawn (h:StK w0 wS W g A0 n c0 i l s r V3 V4 vs ks) (hd:Drawn0 W W1):StK w0 wS W1 g A0 n c0 i l s r V3 V4 vs ks:=h.below (drawn_below hd)
theorem StK.keep {j:Int} (h:StK w0 wS W g A0 n c0 i l s r V3 V4 vs ks) (hk:KeepBut W W1 g none) (hb:Below w0.heap.size w0 W1) (hR:RdB W1 g A0 n c0 j l s r V3 V4):StK w0 wS W1 g A0 n c0 j l s r V3 V4 vs ks:=
 ⟨hR,Kd.R_mono (Kd.R_keep (Kd.R_types h.2.1 h.1 (by decide)) hk (fun _ hk=>hk.2)) (fun _ _=>trivial),Kd.R_mono (Kd.R_keep (Kd.R_types h.2.2.1 h.1 (by decide)) hk (fun _ hk=>hk.2)) (fun _ hk=>hk.1),hb,h.2.2.2.2.1,h.2.2.2.2.2.trans hk (.inl rfl)⟩
end
theorem hasName_true {ks:List S39} {nm:ByteArray} {q:Nat} {x:S39} (h:ks[q]?=some x) (hx:x.f0.toList=nm.toList):hasName ks nm=true:=by
 unfold hasName;rw [List.any_eq_true];exact⟨x,List.mem_of_getElem? h,by simp [hx]⟩
theorem hasName_false {ks:List S39} {nm:ByteArray} (h:∀ j,j<ks.length→∀ x,ks[j]?=some x→¬ x.f0.toList=nm.toList):hasName ks nm=false:=by
 unfold hasName;rw [List.any_eq_false];intro x hx;obtain⟨j,hj,rfl⟩:=List.getElem_of_mem hx;simpa using h j hj _ (List.getElem?_eq_getElem hj)
def StI (w0 w4 W:World) (g:Nat) (A0:Option Addr) (n c0:Nat) (i:Int) (l s r:ByteArray) (V3 V4 VV:Value) (vv:List ByteArray):Prop:=
 RdB W g A0 n c0 i l s r V3 V4∧KeepBut w4 W g none∧Below w0.heap.size w0 W∧w0.heap.size≤g∧Kd.R Kd.string 9 W w0.heap.size (fun k=>w4.heap.size≤k) VV vv
section
variable {w0 w4 W W1:World} {g:Nat} {A0:Option Addr} {n c0:Nat} {i:Int} {l s r:ByteArray} {V3 V4 VV VN:Value} {vv vn:List ByteArray}
theorem StI.below (h:StI w0 w4 W g A0 n c0 i l s r V3 V4 VV vv) (hb:Below W.heap.size W W1):StI w0 w4 W1 g A0 n c0 i l s r V3 V4 VV vv:=
 ⟨h.1.below hb,h.2.1.trans (KeepBut.of_below hb g none) (.inl rfl),below_step h.2.2.1 hb,h.2.2.2.1,Kd.R_below h.2.2.2.2 hb⟩
theorem StI.drawn (h:StI w0 w4 W g A0 n c0 i l s r V3 V4 VV vv) (hd:Drawn0 W W1):StI w0 w4 W1 g A0 n c0 i l s r V3 V4 VV vv:=h.below (drawn_below hd)
theorem StI.step (h:StI w0 w4 W g A0 n c0 i l s r V3 V4 VV vv) (j:Int):StI w0 w4 (W.setCell ⟨g,1,none⟩ (.int .i64 j)) g A0 n c0 j l s r V3 V4 VV vv:=
 ⟨(blk_set h.1 1 (.int .i64 j)).trans rfl,KeepBut.set_ h.2.1 1 _,below_set h.2.2.1 h.2.2.2.1,h.2.2.2.1,Kd.R_set h.2.2.2.2 h.1 (by decide) 1 _⟩
theorem StI.grown (h:StI w0 w4 W g A0 n c0 i l s r V3 V4 VV vv) (hg:W.grownBy W1 VV.ownBlock) (hb:Below w0.heap.size w0 W1) (ho:Kd.R Kd.string 9 W1 w0.heap.size (fun k=>w4.heap.size≤k) VN vn):StI w0 w4 W1 g A0 n c0 i l s r V3 V4 VN vn:=
 ⟨blk_grown h.1 hg (Kd.R_ne h.2.2.2.2 h.1 (by decide)),h.2.1.trans (KeepBut.of_grown hg g) (by
  cases hv:VV.ownBlock with
  |none=>exact .inl rfl
  |some b=>exact .inr ⟨b,rfl,h.2.2.2.2.1 b hv⟩),hb,h.2.2.2.1,ho⟩
end
theorem keyvF_step {k:Nat} {ps:List S89} {v:List ByteArray} {res:List S89×List ByteArray} (h:keyvF k ps v=some res):
 (tag_signs.f k (nowT ps) 3 8=some false∧res=(ps,v))∨(∃ p pt,ps=p :: pt∧tag_signs.f k p.f0 3 8=some true∧∃ x,tag_lower.f p.f0=some x∧v.length<8796093022208∧keyvF k pt (v++[x])=some res):=by
 cases ps with
 |nil=>exact .inl (keyvF_nil h)
 |cons p pt=>
  rcases keyvF_cons h with h|h
  ·exact .inl h
  ·exact .inr ⟨p,pt,rfl,h⟩
structure KeysPost (w0 wS w':World) (g:Nat) (A0:Option Addr) (c0:Nat) (ps:List S89) (l s r:ByteArray) (vs:List ByteArray) (res:Int×List S89×List S39):Prop where
 out:∃ (i':Nat) (V3' V4':Value),i'≤ps.length∧res.2.1=ps.drop i'∧StK w0 wS w' g A0 ps.length c0 (i':Int) l s r V3' V4' vs res.2.2
theorem KeysPost.of {w0 wS w':World} {g:Nat} {A0:Option Addr} {c0:Nat} {ps:List S89} {l s r:ByteArray} {e:Int} {rest:List S89} {vs:List ByteArray} {ks:List S39} (i':Nat) (V3' V4':Value) (h1:i'≤ps.length) (h2:rest=ps.drop i') (h3:StK w0 wS w' g A0 ps.length c0 (i':Int) l s r V3' V4' vs ks):KeysPost w0 wS w' g A0 c0 ps l s r vs (e,rest,ks):=⟨i',V3',V4',h1,h2,h3⟩
def KBox (W:World) (kb:Nat) (a b:ByteArray):Prop:=W.heap[kb]?=some (.cells #[.string a,.string b] 39 (0,0))
theorem KBox.below {W W1:World} {kb:Nat} {a b:ByteArray} (h:KBox W kb a b) (hb:Below W.heap.size W W1):KBox W1 kb a b:=blk_below h hb
theorem KBox.cells {W:World} {kb:Nat} {a b:ByteArray} (h:KBox W kb a b):W.cell? ⟨kb,0,none⟩=some (.string a)∧W.cell? ⟨kb,1,none⟩=some (.string b)∧W.frozen? ⟨kb,0,none⟩=false∧W.frozen? ⟨kb,1,none⟩=false:=
 ⟨(blk_cell h 0).trans rfl,(blk_cell h 1).trans rfl,blk_frozen h 0,blk_frozen h 1⟩
theorem KBox.ne {W:World} {kb g:Nat} {a b:ByteArray} {A0:Option Addr} {n c0:Nat} {i:Int} {l s r:ByteArray} {V3 V4:Value} (h:KBox W kb a b) (hR:RdB W g A0 n c0 i l s r V3 V4):kb≠g:=blk_ne h hR (by decide)
theorem StK.box {w0 wS W:World} {g:Nat} {A0:Option Addr} {n c0:Nat} {i:Int} {l s r:ByteArray} {V3 V4:Value} {vs:List ByteArray} {ks:List S39} {kb:Nat} (h:StK w0 wS W g A0 n c0 i l s r V3 V4 vs ks) {a b:ByteArray} (hk:KBox W kb a b) (hn:∀ b,V4.ownBlock=some b→b≠kb) (hg:wS.heap.size≤kb∧w0.heap.size≤kb) (j:Nat) (u:Value):
 StK w0 wS (W.setCell ⟨kb,j,none⟩ u) g A0 n c0 i l s r V3 V4 vs ks:=
 ⟨blk_far h.1 (Ne.symm (hk.ne h.1)) u,Kd.R_set h.2.1 hk (by decide) j u,Kd.R_mono (Kd.R_bound (Kd.R_far (Kd.R_reok rfl h.2.2.1 (ok:=fun k=>k≠kb∧wS.heap.size≤k) (fun b hb=>⟨hn b hb,h.2.2.1.1 b hb⟩)) (fun _ h=>h.1) u)) (fun _ hk=>hk.1.2),below_set h.2.2.2.1 hg.2,h.2.2.2.2.1,keep_far h.2.2.2.2.2 hg.1 u⟩
def keys19T:Bool×List (List Nat×List Nat):=(true,[([],[]),([],[]),([1],[1]),([2],[2]),([3],[3]),([4],[4]),([],[]),([6],[6]),([5,7],[5,7]),([0,0,1,2,3,4,5,6,7,8],[0]),([9,0,1,2,3,4,5,6,7,8],[9]),([10,0,1,2,3,4,5,6,7,8],[10]),([11,8,8,0,1,2,3,4,5,6,7,8],[8,11])])
def keys19B:List Nat:=[0,0,2,6,14,30,0,64,254,511,1023,2047,4095]
theorem keys19_tab:rtab .any (opsOf Tryz.f76 19)=keys19T:=by kernel_rfl
theorem keys19_bits:waitsOk keys19T.2 keys19B=true:=by kernel_rfl
set_option maxHeartbeats 8000000 in
set_option maxRecDepth 100000 in
theorem keys_ (k g c0 n:Nat) (A0:Option Addr) (ps:List S89) (i:Nat) (l s r:ByteArray) (V3 V4:Value) (vs:List ByteArray) (ks:List S39) (res:Int×List S89×List S39) (w0 wS w:World) (hS:StK w0 wS w g A0 ps.length c0 (i:Int) l s r V3 V4 vs ks) (hC:Kd.C k89 w0 A0 ps.length ps) (hi:i≤ps.length) (h:keysF k n (ps.drop i) ks=some res):
 Calls Tryz.prog 76 #[.pointer (some ⟨g,0,none⟩)] w fun e w'=>e=.returned (.int .i64 res.1)∧KeysPost w0 wS w' g A0 c0 ps l s r vs res:=by
 have HS:=ak_ hS;have HC:=ak_ hC;have HI:=ak_ hi;have H:=ak_ h;clear hS hC hi h
 go_enter Tryz.func76,Tryz.ntmps76
 go_wp2
 go_loopg [] n (fun kq w'=>∃ (i:Nat) (V3 V4:Value) (ks:List S39),Aside0 (i≤ps.length)∧Aside0 (StK w0 wS w' g A0 ps.length c0 (i:Int) l s r V3 V4 vs ks)∧Aside0 (keysF k kq (ps.drop i) ks=some res))
 case atStart=>exact ⟨i,V3,V4,ks,HI,HS,H⟩
 case round =>
  obtain⟨i,V3,V4,ks,HI,HS,H⟩:=hrel;cases gk with
  |zero=>exact absurd H.out (by simp [keysF])
  | succ k1 =>
   by_cases hlt:i<ps.length
   ·have hd :=drop_here hlt
    have h:=H.out;rw [hd] at h;have HX:=ak_ (congrArg nowT hd);have HD:=ak_ hd;have HLT:=ak_ hlt;clear hd H hlt;rcases keysF_cons h with ⟨hv,rfl⟩|⟨hv,nm,hl,h⟩
    ·have HV:=ak_ hv
     clear hv h
     go_wp2_with (first
      |(go_at_call 75;refine(now2_ g c0 A0 ps i l s r V3 V4 w0 _ _ HS.out.1 HC.out HS.out.2.2.2.1 HI.out HX.out).mono ?_;rintro e w1 ⟨rfl,hd⟩;have HS':=ak_ (HS.out.drawn hd);clear HS hd;have HS:=HS';clear HS')
      |(go_at_call 59;refine(tag_signs.calls k _ _ _ _ _ HV.out).mono ?_;rintro e w1 ⟨rfl,hd⟩;have HS':=ak_ (HS.out.drawn hd);clear HS hd;have HS:=HS';clear HS'))
     go_ret
     exact⟨rfl,.of i V3 V4 HI.out HD.out.symm HS.out⟩
    ·have HV :=ak_ hv
     have HL:=ak_ hl;have H:=ak_ h;clear hv hl h
     go_upto_region 3 with (first
      |(go_at_call 75;refine(now2_ g c0 A0 ps i l s r V3 V4 w0 _ _ HS.out.1 HC.out HS.out.2.2.2.1 HI.out HX.out).mono ?_;rintro e w1 ⟨rfl,hd⟩;have HS':=ak_ (HS.out.drawn hd);clear HS hd;have HS:=HS';clear HS')
      |(go_at_call 59;refine(tag_signs.calls k _ _ _ _ _ HV.out).mono ?_;rintro e w1 ⟨rfl,hd⟩;have HS':=ak_ (HS.out.drawn hd);clear HS hd;have HS:=HS';clear HS')
      |(go_at_call 44;refine(tag_lower.calls _ _ _ HL.out).mono ?_;rintro e w1 ⟨rfl,hb⟩;have HS':=ak_ (HS.out.below hb);clear HS hb;have HS:=HS';clear HS')
      |((with_reducible refine gate_dst (N:=3) rfl ?_);refine box_event ?hg (N:=3) ?hd (cs:=#[.string ⟨#[]⟩,.string ⟨#[]⟩]) (t:=39) ?hr ?_;(case hd=>rfl);(case hg=>rfl);(case hr=>first|(go_simp;done)|(go_simp;rfl));intro kb hg w1 hbox hb;have HKB:=ak_ hbox;have HGE:=ak_ (Nat.le_of_eq hg.symm);have HB1:=ak_ hb;clear hg hbox hb;obtain⟨k0,k1',g0,g1⟩:=KBox.cells HKB.out))
     obtain⟨w2,hw2⟩:∃ w2,w2=((w1.setCell ⟨kb,0,none⟩ (.string nm)).setCell ⟨kb,1,none⟩ (.string ⟨#[]⟩)):=⟨_,rfl⟩;rw [← hw2];have HS2:=ak_ (HS.out.below (W1:=w2) (by rw [hw2];exact below_set (below_set HB1.out HGE.out) HGE.out))
     have HK2:=ak_ (show KBox w2 kb nm ⟨#[]⟩ by rw [hw2];exact(blk_put (cs':=#[.string nm,.string ⟨#[]⟩]) (blk_put (cs':=#[.string nm,.string ⟨#[]⟩]) HKB.out 0 (.string nm) rfl) 1 (.string ⟨#[]⟩) rfl))
     have HNK:=ak_ (fun b (hb:V4.ownBlock=some b)=>Nat.ne_of_lt (Nat.lt_of_lt_of_le (Kd.R_lt HS.out.2.2.1 b hb) HGE.out));have HGK:=ak_ (And.intro (Nat.le_trans HS.out.2.2.2.2.2.1 HGE.out) (Nat.le_trans HS.out.2.2.2.1.size HGE.out));clear HS HB1 HGE HKB k0 k1' g0 g1 hw2;have HS:=HS2;have HKB:=HK2;clear HS2 HK2;obtain⟨A4,c4,rfl,hc4,hC4⟩:=Kd.R_reads HS.out.2.2.1;have HC4:=ak_ hC4;have Hc4:=ak_ hc4;clear hC4 hc4;obtain⟨_,z1,_,z6,f1,_,f6⟩:=HS.out.1.cells
     go_wp2
     go_loopg [20] (ks.length+1) (fun kq v20 w'=>∃ q:Nat,v20=.int .i64 (q:Int)∧Aside0 (ks.length+1≤kq+q)∧Aside0 (q≤ks.length)∧Aside0 (Below w2.heap.size w2 w')∧Aside0 (∀ j,j<q→∀ x,ks[j]?=some x→¬ x.f0.toList=nm.toList))
     case atStart=>exact ⟨0,rfl,⟨Nat.le_refl _⟩,⟨Nat.zero_le _⟩,⟨Below.refl _ _⟩,⟨fun j hj=>absurd hj (Nat.not_lt_zero _)⟩⟩
     case round=>
      obtain⟨q,rfl,HQ,HQL,HBQ,HNO⟩:=hrel;cases gk with
      |zero=>exact absurd HQ.out (by have:=HQL.out;omega)
      | succ k2=>
       by_cases hq:q<ks.length
       ·have hq':((q:Int)<(ks.length:Int)):=by omega
        have h0:(0:Int)≤(q:Int):=by omega
        obtain⟨ad,e1,x0,x1⟩:=at_T39 HC4.out (q:Int) h0 hq';cases e1;replace x0:=pw_cell_below HBQ.out x0;replace x1:=pw_cell_below HBQ.out x1;have hget:ks[q]?=some (rd_T39 ks q):=by
         unfold rd_T39;simp [List.getD_eq_getElem?_getD,List.getElem?_eq_getElem hq]
        have HGET:=ak_ hget;have HQ1:=ak_ hq;clear hget hq;have HWN:=ak_ (wrapNext HQ1.out HC4.out.2.1);have p1:=eq_true h0;have q1:=eq_true hq';have q2:decide ((q:Int)<(ks.length:Int))=true:=decide_eq_true hq';clear h0 hq';generalize rd_T39 ks (q:Int)=x at *;generalize hj:(q:Int)=j at *;have HJ:=ak_ hj;clear hj;obtain⟨k0,k1',g0,g1⟩:=KBox.cells (HKB.out.below HBQ.out);by_cases hxn:x.f0.toList=nm.toList
        ·have hb0:(x.f0.toList==nm.toList)=true:=beq_iff_eq.mpr hxn
         have HXN:=ak_ hxn;clear hxn
         go_wp2_with ((with_reducible refine gate_dst (N:=5) rfl ?_);refine box_event ?hg (N:=5) ?hd (cs:=#[.string ⟨#[]⟩,.string ⟨#[]⟩]) (t:=39) ?hr ?_;(case hd=>rfl);(case hg=>rfl);(case hr=>first|(go_simp;done)|(go_simp;rfl));intro xb hg w5 hbox hb;have HXB:=ak_ hbox;have HGX:=ak_ (Nat.le_of_eq hg.symm);have HBX:=ak_ hb;have hne:=Nat.ne_of_gt (Nat.lt_of_lt_of_le (blk_lt (HKB.out.below HBQ.out)) HGX.out);have hne2:=Ne.symm hne;clear hg hbox hb;obtain⟨x0',x1',y0,y1⟩:=KBox.cells HXB.out;replace k0:=pw_cell_below HBX.out k0)
         rcases H.out with ⟨_,rfl⟩|⟨hn,_⟩
         ·go_ret
          exact⟨rfl,.of i _ _ HI.out HD.out.symm ((HS.out.below HBQ.out).below (below_set (below_set HBX.out HGX.out) HGX.out))⟩
         ·rw [hasName_true HGET.out HXN.out] at hn;cases hn
        ·have hb0:(x.f0.toList==nm.toList)=false:=beq_eq_false_iff_ne.mpr hxn
         have HXN:=ak_ hxn;clear hxn
         go_wp2_with ((with_reducible refine gate_dst (N:=5) rfl ?_);refine box_event ?hg (N:=5) ?hd (cs:=#[.string ⟨#[]⟩,.string ⟨#[]⟩]) (t:=39) ?hr ?_;(case hd=>rfl);(case hg=>rfl);(case hr=>first|(go_simp;done)|(go_simp;rfl));intro xb hg w5 hbox hb;have HXB:=ak_ hbox;have HGX:=ak_ (Nat.le_of_eq hg.symm);have HBX:=ak_ hb;have hne:=Nat.ne_of_gt (Nat.lt_of_lt_of_le (blk_lt (HKB.out.below HBQ.out)) HGX.out);have hne2:=Ne.symm hne;clear hg hbox hb;obtain⟨x0',x1',y0,y1⟩:=KBox.cells HXB.out;replace k0:=pw_cell_below HBX.out k0)
         go_roundg k2
         case measure=>omega
         case rel=>exact ⟨q+1,by rw [HWN.out],⟨by have:=HQ.out;omega⟩,⟨HQ1.out⟩,⟨below_step HBQ.out (below_set (below_set HBX.out HGX.out) HGX.out)⟩,⟨fun j hj y hy=>by
          rcases Nat.lt_succ_iff_lt_or_eq.1 hj with h1|rfl
          ·exact HNO.out j h1 y hy
          ·rw [HGET.out] at hy;obtain rfl:=Option.some.inj hy;exact HXN.out⟩⟩
       ·have hqe:q=ks.length:=by have:=HQL.out;omega
        subst hqe;have hno:=hasName_false HNO.out;rcases H.out with ⟨h1,_⟩|⟨_,h⟩
        ·rw [hno] at h1;cases h1
        have HS':=ak_ (HS.out.below HBQ.out);have HKB':=ak_ (HKB.out.below HBQ.out);clear HS HKB H hno HNO HBQ HQ HQL hq;have HS:=HS';have HKB:=HKB';clear HS' HKB' z1 z6 f1 f6;obtain⟨_,z1,_,z6,f1,_,f6⟩:=HS.out.1.cells;have hd1:decide ((ks.length:Int)<(ks.length:Int))=false:=decide_eq_false (by omega)
        rcases h with ⟨h6,rfl⟩|⟨h6,q,v,hq,hv,h7,h⟩
        ·have h6a:((ks.length:Int)==64)=true:=by simp [h6]
         clear h6
         go_wp2
         go_ret
         exact⟨rfl,.of i _ _ HI.out HD.out.symm HS.out⟩
        ·have h6a:((ks.length:Int)==64)=false:=by simp;omega
         have H7:=ak_ h7;have HQQ:=ak_ hq;have HVV:=ak_ hv;have H:=ak_ h;clear h h6 h7 hq hv
         go_wp2
         generalize wr=w4 at *;have HI4:=ak_ (StI.step (VV:=.slice none 0 0) (vv:=[]) (w4:=w4) ⟨HS.out.1,KeepBut.refl _ _ _,HS.out.2.2.2.1,HS.out.2.2.2.2.1,Kd.R_nil _ _ _ _ _⟩ (wrap64 ((i:Int)+1)));generalize (w4.setCell ⟨g,1,none⟩ (.int .i64 (wrap64 ((i:Int)+1))))=wi at HI4 ⊢;rw [wrapNext HLT.out HC.out.2.1] at HI4;generalize wrap64 ((i:Int)+1)=iw
         go_loopg [6] (ps.length+1) (fun kq v6 w'=>∃ (j:Nat) (vv:List ByteArray),Aside0 (ps.length+1≤kq+j)∧Aside0 (j≤ps.length)∧Aside0 (StI w0 w4 w' g A0 ps.length c0 (j:Int) l s r V3 (.slice A4 ks.length c4) v6 vv)∧Aside0 (keyvF k (ps.drop j) vv=some q))
         case atStart=>exact ⟨i+1,[],⟨by omega⟩,⟨HLT.out⟩,HI4,HQQ⟩
         case round=>
          obtain⟨j,vv,HQ,HJ,HSI,HV⟩:=hrel;cases gk with
          |zero=>exact absurd HQ.out (by have:=HJ.out;omega)
          | succ k3=>
           rcases keyvF_step HV.out with ⟨hv,rfl⟩|⟨p,pt,hd,hv,x,hx,h7,h⟩
           ·have HG:=ak_ hv
            have HX:=ak_ (rfl:nowT (ps.drop j)=nowT (ps.drop j));clear HV hv
            go_upto_region 16 with (first
             |(go_at_call 75;refine(now2_ g c0 A0 ps j l s r V3 (.slice A4 ks.length c4) w0 _ _ HSI.out.1 HC.out HSI.out.2.2.1 HJ.out HX.out).mono ?_;rintro e w1 ⟨rfl,hd⟩;have HS':=ak_ (HSI.out.drawn hd);clear HSI hd;have HSI:=HS';clear HS')
             |(go_at_call 59;refine(tag_signs.calls k _ _ _ _ _ HG.out).mono ?_;rintro e w1 ⟨rfl,hd⟩;have HS':=ak_ (HSI.out.drawn hd);clear HSI hd;have HSI:=HS';clear HS'))
            obtain⟨Av,cv,rfl,hcv,hCv⟩:=Kd.R_reads HSI.out.2.2.2.2;have HCV:=ak_ hCv;have Hcv:=ak_ hcv;have HSK:=ak_ (StK.keep HS.out HSI.out.2.1 HSI.out.2.2.1 HSI.out.1);have HKB':=ak_ (show KBox w1 kb nm ⟨#[]⟩ from KeepBut.blk HSI.out.2.1 HKB.out (HKB.out.ne HS.out.1) (by simp))
            clear HS HKB HSI hCv hcv z1 z6 f1 f6;have HKB:=HKB';clear HKB'
            go_upto_if 65 with (first
             |(go_at_call 69;refine(strings_Join.calls Av cv vv _ v _ HCV.out Hcv.out HVV.out).mono ?_;rintro e w5 ⟨rfl,hb⟩;have HS':=ak_ (HSK.out.below hb);have HK':=ak_ (HKB.out.below hb);clear HSK HKB hb;have HSK:=HS';have HKB:=HK';clear HS' HK';obtain⟨k0,k1',g0,g1⟩:=HKB.out.cells)
             |((with_reducible refine gate_store (t:=9) (p:=62) rfl ?_);refine store_event (t:=9) (p:=62) (v:=?vo) (w1:=(w5.setCell ⟨kb,1,none⟩ (.string v))) ?hg ?ho ?hn ?hr ?_;(case ho=>rfl);(case hg=>rfl);(case hn=>rfl);(case hr=>first|(go_simp;done)|(go_simp;rfl));intro w6 hw;have HS':=ak_ (hw▸StK.box HSK.out HKB.out HNK.out HGK.out 1 (.string v));have HK':=ak_ (show KBox w6 kb nm v from hw▸(blk_put (cs':=#[.string nm,.string v]) HKB.out 1 (.string v) rfl));clear HSK HKB hw k0 k1' g0 g1;have HSK:=HS';have HKB:=HK';clear HS' HK';obtain⟨k0,k1',g0,g1⟩:=HKB.out.cells))
            go_cut [] (fun wc=>Aside0 (StK w0 wS wc g A0 ps.length c0 (j:Int) l s r V3 (.slice A4 ks.length c4) vs ks)∧Aside0 (KBox wc kb nm (keptVal v)))
            case first=>
             by_cases hT:v.toList=[116,114,117,101]
             ·have hkv:keptVal v=⟨#[]⟩:=if_pos hT
              have hb0:(v.toList==([116,114,117,101]:List UInt8))=true:=beq_iff_eq.mpr hT;have HKV:=ak_ hkv;clear hT hkv
              (first|rw [hb0]|skip)
              go_wp2
              go_meet
              case rel=>exact ⟨⟨StK.box HSK.out HKB.out HNK.out HGK.out 1 (.string ⟨#[]⟩)⟩,⟨by rw [HKV.out];exact(blk_put (cs':=#[.string nm,.string ⟨#[]⟩]) HKB.out 1 (.string ⟨#[]⟩) rfl)⟩⟩
             ·have hkv:keptVal v=v:=if_neg hT
              have hb0:(v.toList==([116,114,117,101]:List UInt8))=false:=beq_eq_false_iff_ne.mpr hT;have HKV:=ak_ hkv;clear hT hkv
              (first|rw [hb0]|skip)
              go_wp2
              go_meet
              case rel=>exact ⟨HSK,⟨by rw [HKV.out];exact HKB.out⟩⟩
            case rest=>
             clear HSK HKB k0 k1' g0 g1;obtain⟨HSK,HKB⟩:=hcut
             go_upto_region 19 with fail
             have HSK':=ak_ (HSK.out.below (below_drew1 (Below.refl _ _)));have HKB':=ak_ (HKB.out.below (below_drew1 (Below.refl _ _)));clear HSK HKB;have HSK:=HSK';have HKB:=HKB';clear HSK' HKB';refine st_ 13 keys19_tab keys19_bits (S:=fun w'=>w'.cell? ⟨g,6,none⟩=some (.slice A4 ks.length c4)∧w'.cell? ⟨kb,0,none⟩=some (.string nm)∧w'.cell? ⟨kb,1,none⟩=some (.string (keptVal v))) (ds:=[12]) ⟨HSK.out.1.cells.2.2.2.1,HKB.out.cells.1,HKB.out.cells.2.1⟩ (fun hHeld HT_ HW_=>?_);generalize wc.drew=wd at HSK HKB hHeld ⊢
             iterate 7 (first|refine pu_ HT_ ?_|refine tk_ HT_ HW_ hHeld ?_)
             refine on_ HT_ (fun K hK=>?_);refine value_ (N:=some 74) (w1:=wd.alloc (.cells #[.string nm,.string (keptVal v)] 39)) rfl rfl (by first|(go_simp;done)|(go_simp;rfl)) ?_
             refine hK.out _ _ ⟨(HSK.out.below (below_alloc (Below.refl _ _) _)).1.cells.2.2.2.1,(HKB.out.below (below_alloc (Below.refl _ _) _)).cells.1,(HKB.out.below (below_alloc (Below.refl _ _) _)).cells.2.1⟩ (fun hHeld=>?_);clear hK K;refine nn_ (some 74) ?_;refine on_ HT_ (fun K hK=>?_);refine Kd.R_append_step k39 (w0:=w0) w0.heap.size rfl (.tmp 72) (.tmp 74) 23 39 (.agg #[(.string ⟨#[]⟩),(.string ⟨#[]⟩)]) 32 rfl Tryz.underlying23 info39 rfl (by decide) (by omega) (.slice A4 ks.length c4) ks ⟨nm,keptVal v⟩ [.string nm,.string (keptVal v)] (fun k=>wS.heap.size≤k) (fun _=>False) rfl (by first|(go_simp;done)|(go_simp;rfl)) (k39_mkM _ _ _ _) (fun _ hk=>hk.elim) (fun _ hk=>Nat.le_trans HSK.out.2.2.2.2.2.1 hk) HSK.out.2.2.1 HSK.out.2.2.2.1 HSK.out.2.2.2.1.size (by have:=H7.out;omega) ?_
             intro Vn w3 ho hb hg hat;obtain⟨An,cn,rfl⟩:=Kd.R_slice ho;have hR3:=blk_grown HSK.out.1 hg (Kd.R_ne HSK.out.2.2.1 HSK.out.1 (by decide))
             have hT3:=Kd.R_over HSK.out.2.1 HSK.out.2.2.1 (by decide) hg
             have hK3:KBox w3 kb nm (keptVal v):=blk_grown HKB.out hg (fun e=>HNK.out kb e.symm rfl);refine hK.out _ _ ⟨(RdB.cells hR3).2.2.2.1,hK3.cells.1,hK3.cells.2.1⟩ (fun hHeld=>?_);clear hK K;have HR3:=ak_ hR3;have HT3:=ak_ hT3;have HO3:=ak_ ho;have HB3:=ak_ hb;have HG3:=ak_ HSK.out.2.2.2.2.1;have HKP:=ak_ (keepGrown HSK.out.2.2.2.2.2 hg HSK.out.2.2.1.1);clear hR3 hT3 hK3 ho hb hg hat HSK HKB;refine nn_ (some 75) ?_
             iterate 3 (refine pu_ HT_ ?_)
             obtain⟨_,_,_,z6,_,_,f6⟩:=RdB.cells HR3.out;refine la_ HT_ (fun K hK=>?_);refine skip_ (w1:=w3.setCell ⟨g,6,none⟩ (.slice An (ks.length+1) cn)) rfl rfl (by first|(go_simp;done)|(go_simp;rfl)) ?_
             refine hK.out _ _ ?_;clear hK K;refine dn_ HT_ ?_
             go_wp2
             go_roundg k1
             case measure=>omega
             case rel=>exact ⟨j,V3,.slice An (ks.length+1) cn,ks++[⟨nm,keptVal v⟩],HJ,⟨(blk_set HR3.out 6 _).trans rfl,Kd.R_set HT3.out HR3.out (by decide) 6 _,Kd.R_set (by have h_:=HO3.out;simp only [List.length_append,List.length_cons,List.length_nil] at h_;exact h_) HR3.out (by decide) 6 _,below_set HB3.out HG3.out,HG3.out,KeepBut.set_ HKP.out 6 _⟩,H⟩
           ·have hjl:j<ps.length:=by
             rcases Nat.lt_or_ge j ps.length with h|h
             ·exact h
             ·rw [List.drop_eq_nil_of_le h] at hd;cases hd
            have HX:=ak_ (congrArg nowT hd);have HJL:=ak_ hjl;have HG:=ak_ hv;have HL:=ak_ hx;have hpt:ps.drop (j+1)=pt:=by have h_:=congrArg List.tail hd;rw [List.tail_drop] at h_;exact h_
            rw [← hpt] at h;clear HV;have HV:=ak_ h;have H7':=ak_ h7;clear hd h hjl hv hx h7 hpt;obtain⟨Av,cv,rfl⟩:=Kd.R_slice HSI.out.2.2.2.2
            go_wp2_with (first
             |(go_at_call 75;refine(now2_ g c0 A0 ps j l s r V3 (.slice A4 ks.length c4) w0 _ _ HSI.out.1 HC.out HSI.out.2.2.1 HJ.out HX.out).mono ?_;rintro e w1 ⟨rfl,hd⟩;have HS':=ak_ (HSI.out.drawn hd);clear HSI hd;have HSI:=HS';clear HS')
             |(go_at_call 59;refine(tag_signs.calls k _ _ _ _ _ HG.out).mono ?_;rintro e w1 ⟨rfl,hd⟩;have HS':=ak_ (HSI.out.drawn hd);clear HSI hd;have HSI:=HS';clear HS')
             |(go_at_call 44;refine(tag_lower.calls _ _ _ HL.out).mono ?_;rintro e w1 ⟨rfl,hb⟩;have HS':=ak_ (HSI.out.below hb);clear HSI hb;have HSI:=HS';clear HS')
             |((with_reducible refine gate_builtin (b:=.append) (xs:=#[.tmp 54,.tmp 58]) rfl ?_);at_builtin;refine Kd.R_append Kd.string (w0:=w0) w0.heap.size rfl (.tmp 54) (.tmp 58) 22 9 (.string ⟨#[]⟩) 16 rfl Tryz.underlying22 info9 rfl (by decide) (by omega) (.slice Av vv.length cv) vv x [.string x] (fun k=>w4.heap.size≤k) (fun _=>False) rfl (by first|(go_simp;done)|(go_simp;rfl)) ?aP (fun _ hk=>hk.elim) ?aF ?aO ?aB ?aS ?aL ?_;(case aP=>exact rfl);(case aB=>exact HSI.out.2.2.1);(case aF=>exact (fun _ hk=>Nat.le_trans HSI.out.2.1.1 hk));(case aO=>exact HSI.out.2.2.2.2);(case aS=>exact HSI.out.2.2.1.size);(case aL=>have:=H7'.out;omega);intro Vn w3 ho hb hg hat;have HS':=ak_ (HSI.out.grown hg hb ho);clear HSI ho hb hg hat;have HSI:=HS';clear HS';obtain⟨_,z1,_,_,f1,_,_⟩:=HSI.out.1.cells))
            go_roundg k3
            case measure=>omega
            case rel=>exact ⟨j+1,vv++[x],⟨by have:=HQ.out;omega⟩,⟨HJL.out⟩,⟨by have h_:=HSI.out.step (wrap64 ((j:Int)+1));rw [wrapNext HJL.out HC.out.2.1] at h_ ⊢;exact h_⟩,HV⟩
   ·have hd:ps.drop i=[]:=List.drop_eq_nil_of_le (by omega)
    have h:=H.out;rw [hd] at h;have HX:=ak_ (congrArg nowT hd);have HD:=ak_ hd;clear hd H hlt;obtain⟨hv,rfl⟩:=keysF_nil h;have HV:=ak_ hv;clear hv h
    go_wp2_with (first
     |(go_at_call 75;refine(now2_ g c0 A0 ps i l s r V3 V4 w0 _ _ HS.out.1 HC.out HS.out.2.2.2.1 HI.out HX.out).mono ?_;rintro e w1 ⟨rfl,hd⟩;have HS':=ak_ (HS.out.drawn hd);clear HS hd;have HS:=HS';clear HS')
     |(go_at_call 59;refine(tag_signs.calls k _ _ _ _ _ HV.out).mono ?_;rintro e w1 ⟨rfl,hd⟩;have HS':=ak_ (HS.out.drawn hd);clear HS hd;have HS:=HS';clear HS'))
    go_ret
    exact⟨rfl,.of i V3 V4 HI.out HD.out.symm HS.out⟩
def headR (k:Nat) (ps:List S89) (l s:ByteArray):Option (Bool×List S89×ByteArray×ByteArray×ByteArray):=
 (tag_region.f k (nowT ps)).bind fun b=>if b=true then(match ps with|[]=>none|q :: pt=>(tag_upper.f q.f0).bind fun r=>some (true,pt,l,s,r)) else some (true,ps,l,s,⟨#[]⟩)
def headS (k:Nat) (ps:List S89) (l:ByteArray):Option (Bool×List S89×ByteArray×ByteArray×ByteArray):=
 (tag_letters.f k (nowT ps) 4 4).bind fun b=>if b=true then(match ps with|[]=>none|q :: pt=>(tag_title.f q.f0).bind fun s=>headR k pt l s) else headR k ps l ⟨#[]⟩
def keptLang (la:ByteArray):ByteArray:=if la.toList=[117,110,100] then⟨#[]⟩ else la
def headF (k:Nat) (ps:List S89):Option (Bool×List S89×ByteArray×ByteArray×ByteArray):=
 (tag_letters.f k (nowT ps) 2 3).bind fun b=>if b=true then(match ps with|[]=>none|q :: pt=>(tag_lower.f q.f0).bind fun la=>headS k pt (keptLang la)) else some (false,ps,⟨#[]⟩,⟨#[]⟩,⟨#[]⟩)
def St0 (w0 wS W:World) (g:Nat) (A0:Option Addr) (n c0:Nat) (i:Int) (l s r:ByteArray) (V3 V4:Value):Prop:=
 RdB W g A0 n c0 i l s r V3 V4∧Below w0.heap.size w0 W∧w0.heap.size≤g∧KeepBut wS W g none
section
variable {w0 wS W W1:World} {g:Nat} {A0:Option Addr} {n c0:Nat} {i:Int} {l s r:ByteArray} {V3 V4:Value}
theorem St0.below (h:St0 w0 wS W g A0 n c0 i l s r V3 V4) (hb:Below W.heap.size W W1):St0 w0 wS W1 g A0 n c0 i l s r V3 V4:=⟨h.1.below hb,below_step h.2.1 hb,h.2.2.1,keepBelow h.2.2.2 hb⟩
theorem St0.drawn (h:St0 w0 wS W g A0 n c0 i l s r V3 V4) (hd:Drawn0 W W1):St0 w0 wS W1 g A0 n c0 i l s r V3 V4:=h.below (drawn_below hd)
theorem St0.setI (h:St0 w0 wS W g A0 n c0 i l s r V3 V4) (j:Int):St0 w0 wS (W.setCell ⟨g,1,none⟩ (.int .i64 j)) g A0 n c0 j l s r V3 V4:=⟨(blk_set h.1 1 (.int .i64 j)).trans rfl,below_set h.2.1 h.2.2.1,h.2.2.1,KeepBut.set_ h.2.2.2 1 _⟩
theorem St0.setL (h:St0 w0 wS W g A0 n c0 i l s r V3 V4) (x:ByteArray):St0 w0 wS (W.setCell ⟨g,2,none⟩ (.string x)) g A0 n c0 i x s r V3 V4:=⟨(blk_set h.1 2 (.string x)).trans rfl,below_set h.2.1 h.2.2.1,h.2.2.1,KeepBut.set_ h.2.2.2 2 _⟩
theorem St0.setS (h:St0 w0 wS W g A0 n c0 i l s r V3 V4) (x:ByteArray):St0 w0 wS (W.setCell ⟨g,3,none⟩ (.string x)) g A0 n c0 i l x r V3 V4:=⟨(blk_set h.1 3 (.string x)).trans rfl,below_set h.2.1 h.2.2.1,h.2.2.1,KeepBut.set_ h.2.2.2 3 _⟩
theorem St0.setR (h:St0 w0 wS W g A0 n c0 i l s r V3 V4) (x:ByteArray):St0 w0 wS (W.setCell ⟨g,4,none⟩ (.string x)) g A0 n c0 i l s x V3 V4:=⟨(blk_set h.1 4 (.string x)).trans rfl,below_set h.2.1 h.2.2.1,h.2.2.1,KeepBut.set_ h.2.2.2 4 _⟩
theorem St0.cells (h:St0 w0 wS W g A0 n c0 i l s r V3 V4):W.cell? ⟨g,1,none⟩=some (.int .i64 i)∧W.frozen? ⟨g,1,none⟩=false∧W.cell? ⟨g,2,none⟩=some (.string l)∧W.frozen? ⟨g,2,none⟩=false∧W.cell? ⟨g,3,none⟩=some (.string s)∧W.frozen? ⟨g,3,none⟩=false∧W.cell? ⟨g,4,none⟩=some (.string r)∧W.frozen? ⟨g,4,none⟩=false:=
 ⟨(blk_cell h.1 1).trans rfl,blk_frozen h.1 1,(blk_cell h.1 2).trans rfl,blk_frozen h.1 2,(blk_cell h.1 3).trans rfl,blk_frozen h.1 3,(blk_cell h.1 4).trans rfl,blk_frozen h.1 4⟩
end
structure HeadPost (w0 wS w':World) (g:Nat) (A0:Option Addr) (c0:Nat) (ps:List S89) (V3 V4:Value) (res:Bool×List S89×ByteArray×ByteArray×ByteArray):Prop where
 out:∃ i':Nat,i'≤ps.length∧res.2.1=ps.drop i'∧St0 w0 wS w' g A0 ps.length c0 (i':Int) res.2.2.1 res.2.2.2.1 res.2.2.2.2 V3 V4
theorem HeadPost.of {w0 wS w':World} {g:Nat} {A0:Option Addr} {c0:Nat} {ps rest:List S89} {V3 V4:Value} {b:Bool} {l s r:ByteArray} (i':Nat) (h1:i'≤ps.length) (h2:rest=ps.drop i') (h3:St0 w0 wS w' g A0 ps.length c0 (i':Int) l s r V3 V4):HeadPost w0 wS w' g A0 c0 ps V3 V4 (b,rest,l,s,r):=⟨i',h1,h2,h3⟩
theorem drop_some {ps:List S89} {i:Nat} {q:S89} {pt:List S89} (h:ps.drop i=q :: pt):i<ps.length∧ps.drop (i+1)=pt:=by
 refine⟨?_,?_⟩
 ·rcases Nat.lt_or_ge i ps.length with h1|h1
  ·exact h1
  ·rw [List.drop_eq_nil_of_le h1] at h;cases h
 ·have h_:=congrArg List.tail h;rw [List.tail_drop] at h_;exact h_
theorem headF_step {k:Nat} {ps:List S89} {res:Bool×List S89×ByteArray×ByteArray×ByteArray} (h:headF k ps=some res):
 (tag_letters.f k (nowT ps) 2 3=some false∧res=(false,ps,⟨#[]⟩,⟨#[]⟩,⟨#[]⟩))∨(∃ q pt la,ps=q :: pt∧tag_letters.f k (nowT ps) 2 3=some true∧tag_lower.f (nowT ps)=some la∧headS k pt (keptLang la)=some res):=by
 unfold headF at h;obtain⟨b,hb,h⟩:=Option.bind_eq_some_iff.1 h;cases b with
 |false=>exact .inl ⟨hb,by simpa using h.symm⟩
 | true=>
  rw [if_pos rfl] at h;cases ps with
  |nil=>cases h
  |cons q pt=>
   obtain⟨la,hl,h⟩:=Option.bind_eq_some_iff.1 h;exact .inr ⟨q,pt,la,rfl,hb,hl,h⟩
theorem headS_step {k:Nat} {ps:List S89} {l:ByteArray} {res:Bool×List S89×ByteArray×ByteArray×ByteArray} (h:headS k ps l=some res):
 ∃ b,tag_letters.f k (nowT ps) 4 4=some b∧((b=false∧headR k ps l ⟨#[]⟩=some res)∨(b=true∧∃ q pt s,ps=q :: pt∧tag_title.f (nowT ps)=some s∧headR k pt l s=some res)):=by
 unfold headS at h;obtain⟨b,hb,h⟩:=Option.bind_eq_some_iff.1 h;refine⟨b,hb,?_⟩;cases b with
 |false=>exact .inl ⟨rfl,by simpa using h⟩
 | true=>
  rw [if_pos rfl] at h;cases ps with
  |nil=>cases h
  |cons q pt=>
   obtain⟨s,hs,h⟩:=Option.bind_eq_some_iff.1 h;exact .inr ⟨rfl,q,pt,s,rfl,hs,h⟩
theorem headR_step {k:Nat} {ps:List S89} {l s:ByteArray} {res:Bool×List S89×ByteArray×ByteArray×ByteArray} (h:headR k ps l s=some res):
 ∃ b,tag_region.f k (nowT ps)=some b∧((b=false∧res=(true,ps,l,s,⟨#[]⟩))∨(b=true∧∃ q pt r,ps=q :: pt∧tag_upper.f (nowT ps)=some r∧res=(true,pt,l,s,r))):=by
 unfold headR at h;obtain⟨b,hb,h⟩:=Option.bind_eq_some_iff.1 h;refine⟨b,hb,?_⟩;cases b with
 |false=>exact .inl ⟨rfl,by simpa using h.symm⟩
 | true=>
  rw [if_pos rfl] at h;cases ps with
  |nil=>cases h
  |cons q pt=>
   obtain⟨r,hr,h⟩:=Option.bind_eq_some_iff.1 h;exact .inr ⟨rfl,q,pt,r,rfl,hr,by simpa using h.symm⟩
set_option maxHeartbeats 8000000 in
set_option maxRecDepth 100000 in
theorem head_ (k g c0:Nat) (A0:Option Addr) (ps:List S89) (i:Nat) (V3 V4:Value) (res:Bool×List S89×ByteArray×ByteArray×ByteArray) (w0 wS w:World) (hS:St0 w0 wS w g A0 ps.length c0 (i:Int) ⟨#[]⟩ ⟨#[]⟩ ⟨#[]⟩ V3 V4) (hi:i≤ps.length) (hC:Kd.C k89 w0 A0 ps.length ps) (h:headF k (ps.drop i)=some res):
 Calls Tryz.prog 73 #[.pointer (some ⟨g,0,none⟩)] w fun e w'=>e=.returned (.bool res.1)∧HeadPost w0 wS w' g A0 c0 ps V3 V4 res:=by
 have HS:=ak_ hS;have HC:=ak_ hC;have HI:=ak_ hi;have h0:=h;clear hS hC h hi;rcases headF_step h0 with ⟨hv,rfl⟩|⟨q,pt,la,hq,hv,hl,h⟩
 ·have HV:=ak_ hv
  clear hv h0
  go_enter Tryz.func73,Tryz.ntmps73
  go_wp2_with (first
   |(go_at_call 75;refine(now_ g c0 A0 ps i _ _ _ V3 V4 w0 _ HS.out.1 HC.out HS.out.2.1 HI.out).mono ?_;rintro e w1 ⟨rfl,hd⟩;have HS':=ak_ (HS.out.drawn hd);clear HS hd;have HS:=HS';clear HS')
   |(go_at_call 53;refine(tag_letters.calls k _ _ _ _ _ HV.out).mono ?_;rintro e w1 ⟨rfl,hd⟩;have HS':=ak_ (HS.out.drawn hd);clear HS hd;have HS:=HS';clear HS'))
  go_ret
  exact⟨rfl,.of i HI.out rfl HS.out⟩
 ·have HV:=ak_ hv
  have HL:=ak_ hl;obtain⟨hlt,hpt⟩:=drop_some hq;rw [← hpt] at h;have HLT:=ak_ hlt;have H:=ak_ h;clear hv hl h h0 hq hpt hlt
  go_enter Tryz.func73,Tryz.ntmps73
  go_upto_if 12 with (first
   |(go_at_call 75;refine(now_ g c0 A0 ps i _ _ _ V3 V4 w0 _ HS.out.1 HC.out HS.out.2.1 HI.out).mono ?_;rintro e w1 ⟨rfl,hd⟩;have HS':=ak_ (HS.out.drawn hd);clear HS hd;have HS:=HS';clear HS')
   |(go_at_call 53;refine(tag_letters.calls k _ _ _ _ _ HV.out).mono ?_;rintro e w1 ⟨rfl,hd⟩;have HS':=ak_ (HS.out.drawn hd);clear HS hd;have HS:=HS';clear HS')
   |(go_at_call 44;refine(tag_lower.calls _ _ _ HL.out).mono ?_;rintro e w1 ⟨rfl,hb⟩;have HS':=ak_ (HS.out.below hb);clear HS hb;have HS:=HS';clear HS'))
  obtain⟨z1,f1,z2,f2,z3,f3,z4,f4⟩:=HS.out.cells
  go_cut [] (fun wc=>Aside0 (St0 w0 wS wc g A0 ps.length c0 (i:Int) (keptLang la) ⟨#[]⟩ ⟨#[]⟩ V3 V4))
  case first=>
   by_cases hT:la.toList=[117,110,100]
   ·have hkv:keptLang la=⟨#[]⟩:=if_pos hT
    have hb0:(la.toList==([117,110,100]:List UInt8))=true:=beq_iff_eq.mpr hT;have HKV:=ak_ hkv;clear hT hkv
    (first|rw [hb0]|skip)
    go_wp2
    go_meet
    case rel=>exact ⟨by rw [HKV.out];exact HS.out⟩
   ·have hkv:keptLang la=la:=if_neg hT
    have hb0:(la.toList==([117,110,100]:List UInt8))=false:=beq_eq_false_iff_ne.mpr hT;have HKV:=ak_ hkv;clear hT hkv
    (first|rw [hb0]|skip)
    go_wp2
    go_meet
    case rel=>exact ⟨by rw [HKV.out];exact HS.out.setL la⟩
  case rest=>
   clear HS HV HL HI z1 f1 z2 f2 z3 f3 z4 f4;have HS:=hcut;clear hcut;obtain⟨z1,f1,z2,f2,z3,f3,z4,f4⟩:=HS.out.cells;obtain⟨b,hv,h⟩:=headS_step H.out;have HV:=ak_ hv;have HH:=ak_ h;have HIW:=ak_ (wrapNext HLT.out HC.out.2.1);clear hv h H
   go_upto_if 27 with (first
    |((with_reducible refine gate_store (t:=3) (p:=24) rfl ?_);refine store_event (t:=3) (p:=24) (v:=?vo) (w1:=(wc.setCell ⟨g,1,none⟩ (.int .i64 (wrap64 ((i:Int)+1))))) ?hg ?ho ?hn ?hr ?_;(case ho=>rfl);(case hg=>rfl);(case hn=>rfl);(case hr=>first|(go_simp;done)|(go_simp;rfl));intro w6 hw;have HS':=ak_ (show St0 w0 wS w6 g A0 ps.length c0 ((i+1:Nat):Int) (keptLang la) ⟨#[]⟩ ⟨#[]⟩ V3 V4 by rw [hw,HIW.out];exact HS.out.setI _);clear HS hw z1 f1 z2 f2 z3 f3 z4 f4;have HS:=HS';clear HS')
    |(go_at_call 75;refine(now_ g c0 A0 ps (i+1) _ _ _ V3 V4 w0 _ HS.out.1 HC.out HS.out.2.1 HLT.out).mono ?_;rintro e w1 ⟨rfl,hd⟩;have HS':=ak_ (HS.out.drawn hd);clear HS hd;have HS:=HS';clear HS')
    |(go_at_call 53;refine(tag_letters.calls k _ _ _ _ _ HV.out).mono ?_;rintro e w1 ⟨rfl,hd⟩;have HS':=ak_ (HS.out.drawn hd);clear HS hd;have HS:=HS';clear HS'))
   go_cut [] (fun wc=>∃ (i:Nat) (s:ByteArray),Aside0 (i≤ps.length)∧Aside0 (St0 w0 wS wc g A0 ps.length c0 (i:Int) (keptLang la) s ⟨#[]⟩ V3 V4)∧Aside0 (headR k (ps.drop i) (keptLang la) s=some res))
   case first=>
    rcases HH.out with ⟨rfl,h⟩|⟨rfl,q,pt,s,hq,hl,h⟩
    ·have H:=ak_ h
     clear h HH
     go_wp2
     go_meet
     case rel=>exact ⟨i+1,_,HLT,HS,H⟩
    ·obtain ⟨hlt,hpt⟩:=drop_some hq
     rw [← hpt] at h;have HL:=ak_ hl;have HLT2:=ak_ hlt;have HIW:=ak_ (wrapNext hlt HC.out.2.1);have H:=ak_ h;clear h hl hlt hq hpt HH
     go_wp2_with (first
      |(go_at_call 75;refine(now_ g c0 A0 ps (i+1) _ _ _ V3 V4 w0 _ HS.out.1 HC.out HS.out.2.1 HLT.out).mono ?_;rintro e w1 ⟨rfl,hd⟩;have HS':=ak_ (HS.out.drawn hd);clear HS hd;have HS:=HS';clear HS';obtain⟨z1,f1,z2,f2,z3,f3,z4,f4⟩:=HS.out.cells)
      |(go_at_call 54;refine(tag_title.calls _ _ _ HL.out).mono ?_;rintro e w5 ⟨rfl,hb⟩;have HS':=ak_ (HS.out.below hb);clear HS hb;have HS:=HS';clear HS';(try clear z1 f1 z2 f2 z3 f3 z4 f4);obtain⟨z1,f1,z2,f2,z3,f3,z4,f4⟩:=HS.out.cells))
     go_meet
     case rel=>exact ⟨i+1+1,_,HLT2,⟨by rw [show wrap64 ((i:Int)+1+1)=((i+1+1:Nat):Int) from HIW.out];exact(HS.out.setS s).setI _⟩,H⟩
   case rest=>
    clear HS HH HLT HIW;obtain⟨i,s,HI,HS,H⟩:=hcut;obtain⟨b,hv,h⟩:=headR_step H.out;have HV:=ak_ hv;have HH:=ak_ h;clear hv h H
    go_upto_if 44 with (first
     |(go_at_call 75;refine(now_ g c0 A0 ps i _ _ _ V3 V4 w0 _ HS.out.1 HC.out HS.out.2.1 HI.out).mono ?_;rintro e w1 ⟨rfl,hd⟩;have HS':=ak_ (HS.out.drawn hd);clear HS hd;have HS:=HS';clear HS';obtain⟨z1,f1,z2,f2,z3,f3,z4,f4⟩:=HS.out.cells)
     |(go_at_call 55;refine(tag_region.calls k _ _ _ HV.out).mono ?_;rintro e w1 ⟨rfl,hd⟩;have HS':=ak_ (HS.out.drawn hd);clear HS hd;have HS:=HS';clear HS'))
    rcases HH.out with ⟨rfl,rfl⟩|⟨rfl,q,pt,r,hq,hl,rfl⟩
    ·clear HH
     go_wp2
     go_ret
     exact⟨rfl,.of i HI.out rfl HS.out⟩
    ·obtain ⟨hlt,hpt⟩:=drop_some hq
     have HL:=ak_ hl;have HPT:=ak_ hpt;have HLT2:=ak_ hlt;have HIW:=ak_ (wrapNext hlt HC.out.2.1);clear hl hlt hq hpt HH
     go_wp2_with (first
      |(go_at_call 75;refine(now_ g c0 A0 ps i _ _ _ V3 V4 w0 _ HS.out.1 HC.out HS.out.2.1 HI.out).mono ?_;rintro e w1 ⟨rfl,hd⟩;have HS':=ak_ (HS.out.drawn hd);clear HS hd;have HS:=HS';clear HS';obtain⟨z1,f1,z2,f2,z3,f3,z4,f4⟩:=HS.out.cells)
      |(go_at_call 56;refine(tag_upper.calls _ _ _ HL.out).mono ?_;rintro e w5 ⟨rfl,hb⟩;have HS':=ak_ (HS.out.below hb);clear HS hb;have HS:=HS';clear HS';(try clear z1 f1 z2 f2 z3 f3 z4 f4);obtain⟨z1,f1,z2,f2,z3,f3,z4,f4⟩:=HS.out.cells))
     go_ret
     exact⟨rfl,.of (i+1) HLT2.out HPT.out.symm (by rw [HIW.out];exact(HS.out.setR r).setI _)⟩
abbrev TagV:=ByteArray×ByteArray×ByteArray×List ByteArray×List S39
abbrev ReadRes:=Int×Int×Option TagV
def readEnd (en:Int) (rest:List S89) (t:TagV):ReadRes:=match rest with|[]=>(0,0,some t)|p :: _=>(p.f1,70,none)
def readU (k m:Nat) (en:Int) (rest:List S89) (l s r:ByteArray) (vs:List ByteArray):Option ReadRes:=match rest with
 |[]=>some (0,0,some (l,s,r,vs,[]))
 |p :: pt=>(tag_lower.f p.f0).bind fun u=>if u.toList=[117] then(keysF k m pt []).bind fun q=>if q.1=0 then(if q.2.2.length=0 then some (nowAt en q.2.1,70,none) else some (readEnd en q.2.1 (l,s,r,vs,q.2.2))) else some (nowAt en q.2.1,q.1,none)
  else some (p.f1,70,none)
def readF (k m:Nat) (ps:List S89) (en:Int):Option ReadRes:=
 (headF k ps).bind fun h=>if h.1=true then(varsF k h.2.1 []).bind fun v=>if v.1=0 then readU k m en v.2.1 h.2.2.1 h.2.2.2.1 h.2.2.2.2 v.2.2 else some (nowAt en v.2.1,v.1,none) else some (nowAt en h.2.1,70,none)
def Box2 (W:World) (b1 b2 g:Nat) (en:Int):Prop:=W.heap[b1]?=some (.cells #[.pointer (some ⟨g,0,none⟩)] 63 (0,0))∧W.heap[b2]?=some (.cells #[.int .i64 en] 3 (0,0))
theorem Box2.below {W W1:World} {b1 b2 g:Nat} {en:Int} (h:Box2 W b1 b2 g en) (hb:Below W.heap.size W W1):Box2 W1 b1 b2 g en:=⟨blk_below h.1 hb,blk_below h.2 hb⟩
theorem Box2.keep {W W1:World} {b1 b2 g:Nat} {en:Int} {A0:Option Addr} {n c0:Nat} {i:Int} {l s r:ByteArray} {V3 V4:Value} (h:Box2 W b1 b2 g en) (hR:RdB W g A0 n c0 i l s r V3 V4) (hk:KeepBut W W1 g none):Box2 W1 b1 b2 g en:=
 ⟨hk.blk h.1 (blk_ne h.1 hR (by decide)) (by simp),hk.blk h.2 (blk_ne h.2 hR (by decide)) (by simp)⟩
theorem Box2.cells {W:World} {b1 b2 g:Nat} {en:Int} (h:Box2 W b1 b2 g en):W.cell? ⟨b1,0,none⟩=some (.pointer (some ⟨g,0,none⟩))∧W.cell? ⟨b2,0,none⟩=some (.int .i64 en):=⟨(blk_cell h.1 0).trans rfl,(blk_cell h.2 0).trans rfl⟩
theorem St0.rebase {w0 wS W:World} {g:Nat} {A0:Option Addr} {n c0:Nat} {i:Int} {l s r:ByteArray} {V3 V4:Value} (h:St0 w0 wS W g A0 n c0 i l s r V3 V4):St0 w0 W W g A0 n c0 i l s r V3 V4:=⟨h.1,h.2.1,h.2.2.1,KeepBut.refl _ _ _⟩
structure ReadPost (w0 w':World) (g:Nat) (A0:Option Addr) (c0:Nat) (ps:List S89) (res:ReadRes):Prop where
 below:Below w0.heap.size w0 w'
 good:∀ t,res.2.2=some t→∃ (wS:World) (i':Nat) (V3 V4:Value),StK w0 wS w' g A0 ps.length c0 (i':Int) t.1 t.2.1 t.2.2.1 V3 V4 t.2.2.2.1 t.2.2.2.2
def read7T:Bool×List (List Nat×List Nat):=(true,[([],[]),([0],[0]),([1],[1]),([2],[2]),([],[]),([4],[4]),([5],[5]),([6],[6]),([7],[7]),([3,8],[3,8]),([9],[9]),([10],[10]),([11,10,10],[10,11]),([12,12,10],[10,12]),([13,10],[10,13]),([10,14],[10,14])])
def read7B:List Nat:=[0,1,3,7,0,16,48,112,240,511,1023,2047,4095,8191,16383,32767]
theorem read7_tab:rtab .any (opsOf Tryz.f46 7)=read7T:=by kernel_rfl
theorem read7_bits:waitsOk read7T.2 read7B=true:=by kernel_rfl
theorem StV.cells_ {w0 wS W:World} {g:Nat} {A0:Option Addr} {n c0:Nat} {i:Int} {l s r:ByteArray} {V3 V4:Value} {vs:List ByteArray} (h:StV w0 wS W g A0 n c0 i l s r V3 V4 vs):W.cell? ⟨g,0,none⟩=some (.slice A0 n c0)∧W.cell? ⟨g,1,none⟩=some (.int .i64 i):=⟨h.1.cells.1,h.1.cells.2.1⟩
theorem StV.toK {w0 wS W:World} {g:Nat} {A0:Option Addr} {n c0:Nat} {i:Int} {l s r:ByteArray} {V3:Value} {vs:List ByteArray} (h:StV w0 wS W g A0 n c0 i l s r V3 (.slice none 0 0) vs):StK w0 W W g A0 n c0 i l s r V3 (.slice none 0 0) vs []:=⟨h.1,Kd.R_mono h.2.1 (fun _ _=>trivial),Kd.R_nil _ _ _ _ _,h.2.2.1,h.2.2.2.1,KeepBut.refl _ _ _⟩
theorem StK.rebase {w0 wS W:World} {g:Nat} {A0:Option Addr} {n c0:Nat} {i:Int} {l s r:ByteArray} {V3 V4:Value} {vs:List ByteArray} {ks:List S39} (h:StK w0 wS W g A0 n c0 i l s r V3 V4 vs ks):RdB W g A0 n c0 i l s r V3 V4∧Below w0.heap.size w0 W∧w0.heap.size≤g:=⟨h.1,h.2.2.2.1,h.2.2.2.2.1⟩
set_option maxHeartbeats 8000000 in
set_option maxRecDepth 100000 in
theorem read_ (k m g c0:Nat) (en:Int) (A0:Option Addr) (ps:List S89) (res:ReadRes) (w0 w:World) (hR:RdB w g A0 ps.length c0 ((0:Nat):Int) ⟨#[]⟩ ⟨#[]⟩ ⟨#[]⟩ (.slice none 0 0) (.slice none 0 0)) (hB:Below w0.heap.size w0 w) (hg:w0.heap.size≤g) (hC:Kd.C k89 w0 A0 ps.length ps) (h:readF k m ps en=some res):
 Calls Tryz.prog 46 #[.pointer (some ⟨g,0,none⟩),.int .i64 en] w fun e w'=>e=.returned (.tuple #[.int .i64 res.1,.int .i64 res.2.1])∧ReadPost w0 w' g A0 c0 ps res:=by
 have HR:=ak_ hR;have HB:=ak_ hB;have HG:=ak_ hg;have HC:=ak_ hC;unfold readF at h;obtain⟨⟨b,rest,l,s,r⟩,hh,h⟩:=Option.bind_eq_some_iff.1 h;have HH:=ak_ hh;have H:=ak_ h;clear hR hB hg hC h hh
 go_enter Tryz.func46,Tryz.ntmps46
 go_upto_region 2 with fail
 obtain⟨w2,hw2⟩:∃ w2,w2=((w.alloc (.cells #[.pointer (some ⟨g,0,none⟩)] 63)).alloc (.cells #[.int .i64 en] 3)):=⟨_,rfl⟩;rw [← hw2];have hbw:Below w.heap.size w w2:=by rw [hw2];exact below_alloc (below_alloc (Below.refl _ _) _) _
 have HX:=ak_ (show Box2 w2 w.heap.size (w.heap.size+1) g en by
  rw [hw2];refine⟨blk_alloc (blk_new w _) _,?_⟩;have h1:=blk_new (w.alloc (.cells #[.pointer (some ⟨g,0,none⟩)] 63)) (.cells #[.int .i64 en] 3);simpa using h1)
 have HS:=ak_ (show St0 w0 w2 w2 g A0 ps.length c0 ((0:Nat):Int) ⟨#[]⟩ ⟨#[]⟩ ⟨#[]⟩ (.slice none 0 0) (.slice none 0 0) from ⟨HR.out.below hbw,below_step HB.out hbw,HG.out,KeepBut.refl _ _ _⟩)
 clear HR HB HG hw2 hbw;generalize w.heap.size+1=b2 at *;generalize w.heap.size=b1 at *;obtain⟨bx1,bx2⟩:=HX.out.cells;cases b with
 | false=>
  obtain rfl:=Option.some.inj ((if_neg (by simp)).symm.trans H.out)
  clear H
  go_wp2_with (first
   |(go_at_call 73;refine(head_ k g c0 A0 ps 0 _ _ _ w0 w2 _ HS.out (Nat.zero_le _) HC.out HH.out).mono ?_;rintro e w3 ⟨rfl,hp⟩;obtain⟨i,h1,h2,h3⟩:=hp.out;have HX':=ak_ (HX.out.keep HS.out.1 h3.2.2.2);have HS':=ak_ h3.rebase;have HI:=ak_ h1;have HD:=ak_ h2;clear HS HX h1 h2 h3 hp;have HS:=HS';have HX:=HX';clear HS' HX' bx1 bx2;obtain⟨bx1,bx2⟩:=HX.out.cells)
   |(go_at_call 72;refine(at_ b1 b2 g c0 en A0 ps i _ _ _ _ _ w0 _ HX.out.cells.1 HX.out.cells.2 HS.out.1 HC.out HS.out.2.1 HI.out).mono ?_;rintro e w4 ⟨rfl,hd⟩;have HBB:=ak_ (below_step HS.out.2.1 (drawn_below hd));clear hd))
  go_ret2
  have hd_:rest=ps.drop i:=HD.out;exact⟨by rw [hd_];rfl,⟨HBB.out,fun t ht=>by cases ht⟩⟩
 | true =>
  have h:=(if_pos rfl).symm.trans H.out;clear H;obtain⟨⟨e,rest2,vs⟩,hv,h⟩:=Option.bind_eq_some_iff.1 h;have HV:=ak_ hv;have H:=ak_ h;clear hv h
  go_upto_region 5 with (first
   |(go_at_call 73;refine(head_ k g c0 A0 ps 0 _ _ _ w0 w2 _ HS.out (Nat.zero_le _) HC.out HH.out).mono ?_;rintro e w3 ⟨rfl,hp⟩;obtain⟨i,h1,h2,h3⟩:=hp.out;have HX':=ak_ (HX.out.keep HS.out.1 h3.2.2.2);have HS':=ak_ h3.rebase;have HI:=ak_ h1;have HD:=ak_ h2;clear HS HX h1 h2 h3 hp;have HS:=HS';have HX:=HX';clear HS' HX' bx1 bx2;obtain⟨bx1,bx2⟩:=HX.out.cells)
   |(go_at_call 74;refine(variants_ k g c0 A0 ps i _ _ _ _ _ [] _ w0 w3 w3 ⟨HS.out.1,Kd.R_nil _ _ _ _ _,HS.out.2.1,HS.out.2.2.1,KeepBut.refl _ _ _⟩ HC.out HI.out (HD.out▸HV.out)).mono ?_;rintro e w4 ⟨rfl,hp⟩;obtain⟨i2,V3,h1,h2,h3⟩:=hp.out;have HX':=ak_ (HX.out.keep HS.out.1 h3.2.2.2.2);have HS':=ak_ h3;have HI':=ak_ h1;have HD':=ak_ h2;clear HS HX HI HD h1 h2 h3 hp;have HS:=HS';have HX:=HX';have HI:=HI';have HD:=HD';clear HS' HX' HI' HD' bx1 bx2;obtain⟨bx1,bx2⟩:=HX.out.cells))
  clear HH HV;by_cases he:e=0
  ·subst he
   have h:=(if_pos rfl).symm.trans H.out;clear H;have hd_:rest2=ps.drop i2:=HD.out;have H:=ak_ h;have HD2:=ak_ hd_;clear h hd_ HD;have HD:=HD2;clear HD2
   go_upto_region 7 with fail
   have HS':=ak_ (HS.out.below (below_drew1 (Below.refl _ _)));have HX':=ak_ (HX.out.below (below_drew1 (Below.refl _ _)));clear HS HX bx1 bx2;have HS:=HS';have HX:=HX';clear HS' HX';refine st_ 16 read7_tab read7_bits (S:=fun w'=>w'.cell? ⟨b1,0,none⟩=some (.pointer (some ⟨g,0,none⟩))∧w'.cell? ⟨g,0,none⟩=some (.slice A0 ps.length c0)∧w'.cell? ⟨g,1,none⟩=some (.int .i64 (i2:Int))) (ds:=[]) ⟨HX.out.cells.1,HS.out.cells_.1,HS.out.cells_.2⟩ (fun hHeld HT_ HW_=>?_);generalize w4.drew=w5 at HS HX hHeld ⊢;cases rest2 with
   | nil=>
    have hi:ps.length≤i2:=List.drop_eq_nil_iff.1 HD.out.symm;have hd1:decide ((i2:Int)<(ps.length:Int))=false:=decide_eq_false (by omega)
    have hd2:decide (i2<ps.length)=false:=decide_eq_false (by omega)
    have HII:=ak_ hi;clear hi;obtain rfl:=Option.some.inj H.out;clear H
    iterate 16 (first|refine sk_ HT_ ?_|refine pu_ HT_ ?_|refine tk_ HT_ HW_ hHeld ?_)
    refine dn_ HT_ ?_;obtain⟨bx1,bx2⟩:=HX.out.cells;obtain⟨z0,z1⟩:=HS.out.cells_
    go_wp2
    repeat (go_quiet (fail);try go_wp2)
    go_ret2
    exact⟨rfl,⟨(HS.out.below (pw_below_drewN (Below.refl _ _) _)).2.2.1,fun t ht=>by
     obtain rfl:=Option.some.inj ht;exact⟨_,i2,V3,.slice none 0 0,(HS.out.below (pw_below_drewN (Below.refl _ _) _)).toK⟩⟩⟩
   | cons p pt=>
    have hdr:ps.drop i2=p :: pt:=HD.out.symm;obtain⟨hlt,hpt⟩:=drop_some hdr;have hd1:decide ((i2:Int)<(ps.length:Int))=true:=decide_eq_true (by omega)
    have hd2:decide (i2<ps.length)=true:=decide_eq_true hlt;have HLT:=ak_ hlt;have HPT:=ak_ hpt;have HN:=ak_ (congrArg nowT hdr);have HNA:=ak_ (congrArg (nowAt en) hdr);have HIW:=ak_ (wrapNext hlt HC.out.2.1);clear hlt hpt hdr;obtain⟨u,hu,h⟩:=Option.bind_eq_some_iff.1 H.out;have HU:=ak_ hu;clear H;have H:=ak_ h;clear hu h
    iterate 12 (first|refine pu_ HT_ ?_|refine tk_ HT_ HW_ hHeld ?_)
    refine on_ HT_ (fun K hK=>?_);refine goes_ Tryz.func75 (by kernel_rfl) rfl #[.pointer (some ⟨g,0,none⟩)] (by rfl) rfl rfl (by(try simp only [List.map_toArray,List.map_cons,List.map_nil]);first|done|rfl) ?_
    refine(now2_ g c0 A0 ps i2 _ _ _ _ _ w0 _ _ HS.out.1 HC.out HS.out.2.2.1 HI.out HN.out).mono ?_;rintro e w6 ⟨rfl,hd⟩;refine⟨_,rfl,?_⟩;have HS':=ak_ (HS.out.drawn hd);have HX':=ak_ (HX.out.below (drawn_below hd));clear HS HX hd;have HS:=HS';have HX:=HX';clear HS' HX';refine hK.out _ _ ⟨HX.out.cells.1,HS.out.cells_.1,HS.out.cells_.2⟩ (fun hHeld=>?_);clear hK K;refine nn_ (some 34) ?_;refine on_ HT_ (fun K hK=>?_);refine goes_ Tryz.func44 (by kernel_rfl) rfl #[.string p.f0] (by rfl) rfl rfl (by(try simp only [List.map_toArray,List.map_cons,List.map_nil]);first|done|rfl) ?_
    refine(tag_lower.calls _ _ _ HU.out).mono ?_;rintro e w7 ⟨rfl,hb⟩;refine⟨_,rfl,?_⟩;have HS':=ak_ (HS.out.below hb);have HX':=ak_ (HX.out.below hb);clear HS HX hb;have HS:=HS';have HX:=HX';clear HS' HX';refine hK.out _ _ ⟨HX.out.cells.1,HS.out.cells_.1,HS.out.cells_.2⟩ (fun hHeld=>?_);clear hK K;refine nn_ (some 35) ?_;by_cases hU:u.toList=[117]
    ·have hb0:(u.toList==([117]:List UInt8))=true:=beq_iff_eq.mpr hU
     have h:=(if_pos hU).symm.trans H.out;clear H hU;obtain⟨⟨e,rest3,ks⟩,hq,h⟩:=Option.bind_eq_some_iff.1 h;have HQ:=ak_ hq;have H:=ak_ h;clear hq h
     iterate 2 (refine pu_ HT_ ?_)
     refine dn_ HT_ ?_;obtain⟨bx1,bx2⟩:=HX.out.cells;obtain⟨z0,z1⟩:=HS.out.cells_;have f1:=HS.out.1.cells.2.2.2.2.1;have HK:=ak_ (show StK w0 (w7.setCell ⟨g,1,none⟩ (.int .i64 (wrap64 ((i2:Int)+1)))) (w7.setCell ⟨g,1,none⟩ (.int .i64 (wrap64 ((i2:Int)+1)))) g A0 ps.length c0 ((i2+1:Nat):Int) l s r V3 (.slice none 0 0) vs [] from HIW.out▸(HS.out.step (wrap64 ((i2:Int)+1))).toK)
     have HX':=ak_ (HX.out.keep HS.out.1 (KeepBut.set_ (KeepBut.refl _ _ _) 1 (.int .i64 (wrap64 ((i2:Int)+1)))))
     go_upto_region 10 with (go_at_call 76;refine(keys_ k g c0 m A0 ps (i2+1) l s r V3 (.slice none 0 0) vs [] _ w0 _ _ HK.out HC.out HLT.out (HPT.out.symm▸HQ.out)).mono ?_;rintro e w8 ⟨rfl,hp⟩)
     obtain⟨i3,V3',V4',h1,h2,h3⟩:=hp.out;have hd3:rest3=ps.drop i3:=h2;have HX2:=ak_ (HX'.out.keep HK.out.1 h3.2.2.2.2.2);obtain⟨A4,c4,rfl⟩:=Kd.R_slice h3.2.2.1;clear HS HX HX' HK HI HQ HPT HIW HLT HNA HN HU bx1 bx2 z0 z1 f1 hp h2 HD;have HI:=ak_ h1;have HD3:=ak_ hd3;have HS:=ak_ h3;have HX:=HX2;clear h1 hd3 h3 HX2;obtain⟨bx1,bx2⟩:=HX.out.cells;obtain⟨z0,z1,_,z6,_,_,_⟩:=HS.out.1.cells;by_cases he:e=0
     ·subst he
      have h:=(if_pos rfl).symm.trans H.out;by_cases hk:ks.length=0
      ·have hb1:((ks.length:Int)==0)=true:=by simp [hk]
       have hb2:ks.isEmpty=true:=by simpa using hk
       obtain rfl:=Option.some.inj ((if_pos hk).symm.trans h);clear H h hk
       go_wp2_with (go_at_call 72;refine(at_ b1 b2 g c0 en A0 ps i3 _ _ _ _ _ w0 _ HX.out.cells.1 HX.out.cells.2 HS.out.1 HC.out HS.out.2.2.2.1 HI.out).mono ?_;rintro e_ w4 ⟨rfl,hd⟩;have HBB:=ak_ (below_step HS.out.2.2.2.1 (drawn_below hd));clear hd)
       go_ret2
       exact⟨by rw [HD3.out];rfl,⟨HBB.out,fun t ht=>by cases ht⟩⟩
      ·have hb1:((ks.length:Int)==0)=false:=by simp;exact fun h=>hk (by rw [h];rfl)
       have hb2:ks.isEmpty=false:=by simpa using hk
       have h2:=Option.some.inj ((if_neg hk).symm.trans h);have H2:=ak_ h2;clear H h hk h2;cases rest3 with
       | nil=>
        have hi:ps.length≤i3:=List.drop_eq_nil_iff.1 HD3.out.symm;have hd1:decide ((i3:Int)<(ps.length:Int))=false:=decide_eq_false (by omega)
        have hd2:decide (i3<ps.length)=false:=decide_eq_false (by omega)
        clear hi;obtain rfl:=H2.out;clear H2
        go_wp2
        repeat (go_quiet (fail);try go_wp2)
        go_ret2
        exact⟨rfl,⟨(HS.out.below (pw_below_drewN (Below.refl _ _) _)).2.2.2.1,fun t ht=>by
         obtain rfl:=Option.some.inj ht;exact⟨_,i3,V3',_,HS.out.below (pw_below_drewN (Below.refl _ _) _)⟩⟩⟩
       |cons p2 pt2=>
        obtain⟨hlt,_⟩:=drop_some HD3.out.symm;have hd1:decide ((i3:Int)<(ps.length:Int))=true:=decide_eq_true (by omega)
        have hd2:decide (i3<ps.length)=true:=decide_eq_true hlt;have HNA:=ak_ (congrArg (nowAt en) HD3.out);clear hlt;obtain rfl:=H2.out;clear H2
        go_wp2
        go_quiet (fail)
        have HS':=ak_ (HS.out.below (pw_below_drewN (Below.refl _ _) nq));have HX':=ak_ (HX.out.below (pw_below_drewN (Below.refl _ _) nq));clear HS HX bx1 bx2 z0 z1 z6;have HS:=HS';have HX:=HX';clear HS' HX'
        go_wp2_with (go_at_call 72;refine(at_ b1 b2 g c0 en A0 ps i3 _ _ _ _ _ w0 _ HX.out.cells.1 HX.out.cells.2 HS.out.1 HC.out HS.out.2.2.2.1 HI.out).mono ?_;rintro e_ w4 ⟨rfl,hd⟩;have HBB:=ak_ (below_step HS.out.2.2.2.1 (drawn_below hd));clear hd)
        go_ret2
        exact⟨by rw [← HNA.out];rfl,⟨HBB.out,fun t ht=>by cases ht⟩⟩
     ·obtain rfl:=Option.some.inj ((if_neg he).symm.trans H.out)
      have hb1:(e==(0:Int))=false:=beq_eq_false_iff_ne.mpr he;have hb2:(e != (0:Int))=true:=bne_iff_ne.mpr he;clear H he
      go_wp2_with (go_at_call 72;refine(at_ b1 b2 g c0 en A0 ps i3 _ _ _ _ _ w0 _ HX.out.cells.1 HX.out.cells.2 HS.out.1 HC.out HS.out.2.2.2.1 HI.out).mono ?_;rintro e_ w4 ⟨rfl,hd⟩;have HBB:=ak_ (below_step HS.out.2.2.2.1 (drawn_below hd));clear hd)
      go_ret2
      exact⟨by rw [HD3.out];rfl,⟨HBB.out,fun t ht=>by cases ht⟩⟩
    ·have hb0:(u.toList==([117]:List UInt8))=false:=beq_eq_false_iff_ne.mpr hU
     obtain rfl:=Option.some.inj ((if_neg hU).symm.trans H.out);clear H hU
     iterate 2 (refine pu_ HT_ ?_)
     refine dn_ HT_ ?_;obtain⟨bx1,bx2⟩:=HX.out.cells;obtain⟨z0,z1⟩:=HS.out.cells_
     go_wp2
     go_quiet (fail)
     have HS':=ak_ (HS.out.below (pw_below_drewN (Below.refl _ _) nq));have HX':=ak_ (HX.out.below (pw_below_drewN (Below.refl _ _) nq));clear HS HX bx1 bx2 z0 z1;have HS:=HS';have HX:=HX';clear HS' HX'
     go_wp2_with (go_at_call 72;refine(at_ b1 b2 g c0 en A0 ps i2 _ _ _ _ _ w0 _ HX.out.cells.1 HX.out.cells.2 HS.out.1 HC.out HS.out.2.2.1 HI.out).mono ?_;rintro e w4 ⟨rfl,hd⟩;have HBB:=ak_ (below_step HS.out.2.2.1 (drawn_below hd));clear hd)
     go_ret2
     exact⟨by rw [HNA.out];rfl,⟨HBB.out,fun t ht=>by cases ht⟩⟩
  ·obtain rfl:=Option.some.inj ((if_neg he).symm.trans H.out)
   have hb0:(e==(0:Int))=false:=beq_eq_false_iff_ne.mpr he;have hb1:(e != (0:Int))=true:=bne_iff_ne.mpr he;clear H he
   go_wp2_with (first
    |(go_at_call 72;refine(at_ b1 b2 g c0 en A0 ps i2 _ _ _ _ _ w0 _ HX.out.cells.1 HX.out.cells.2 HS.out.1 HC.out HS.out.2.2.1 HI.out).mono ?_;rintro e w4 ⟨rfl,hd⟩;have HBB:=ak_ (below_step HS.out.2.2.1 (drawn_below hd));clear hd))
   go_ret2
   have hd_:rest2=ps.drop i2:=HD.out;exact⟨by rw [hd_];rfl,⟨HBB.out,fun t ht=>by cases ht⟩⟩
def sortTexts (vs:List ByteArray):List ByteArray:=((vs.map (·.data.toList)).mergeSort fun x y=>decide (x≤y)).map fun l=>⟨l.toArray⟩
theorem encStr_texts (l:List (List UInt8)):l.map Go.Proofs.encStr=encs Value.string (l.map fun x=>(⟨x.toArray⟩:ByteArray)):=by
 simp only [encs,List.map_map];rfl
theorem sortTexts_calls (V:Value) (vs:List ByteArray) (w:World) (base:Nat) (ok:Nat→Prop) (hR:Kd.R Kd.string 9 w base ok V vs) (hlen:vs.length<4611686018427387904):
 Calls Tryz.prog 47 #[V] w fun e w'=>e=.returned (.tuple #[])∧Kd.R Kd.string 9 w' base ok V (sortTexts vs)∧w.grownBy w' V.ownBlock:=by
 have ho:=Kd.own_of_R (enc:=Value.string) (h1:=fun _=>rfl) hR;rcases ho.2 with ⟨rfl,hn⟩|⟨g,cap,cur,rfl,hbase,hb,h1,h2,h3,h4⟩
 ·obtain rfl:vs=[]:=List.length_eq_zero_iff.1 hn
  refine(Tryz.slices_Sort_string_none none 0 w).mono ?_;rintro e w' ⟨rfl,rfl⟩;refine⟨rfl,?_,World.grownBy.refl _ _⟩;have:sortTexts []=[]:=by simp [sortTexts]
  rw [this];exact hR
 ·have hss:(vs.map (·.data.toList)).length=vs.length:=by simp
  have hH:Go.Sort.Holds Go.Proofs.encStr w g 0 (vs.map (·.data.toList)).toArray:=by
   refine holds_of_block hb ?_;rw [hss,← show vs.length*1=vs.length by omega]
   refine h4.trans ?_;rw [encStr_texts];simp only [List.map_map]
   congr 1
   exact(List.map_id _).symm
  have hc:=Tryz.slices_Sort_string g 0 cap (vs.map (·.data.toList)) w hH (Array.getElem?_eq_some_iff.1 hb).1 (by rw [hss];exact hlen)
  rw [hss] at hc;refine hc.mono ?_;rintro e w' ⟨rfl,n,os,rfl⟩;refine⟨rfl,?_,grownBy_sorted _⟩;have hl:((vs.map (·.data.toList)).mergeSort fun x y=>decide (x≤y)).length=(vs.map (·.data.toList)).length:=by simp
  have hown:=ownsRow_sorted (n:=n) (os:=os) hl hbase hb (by rw [hss];exact h1) h2 h3
  rw [hss,encStr_texts] at hown;have hls:(sortTexts vs).length=vs.length:=by simp [sortTexts]
  have:=Kd.R_of_own (enc:=Value.string) (h1:=fun _=>rfl) (xs:=sortTexts vs) (ok:=ok) (by rw [hls];exact hown) (fun k hk=>hR.1 k hk)
  exact this
def keyCmp (x y:S39):Int:=Lib.compareBytes x.f0.data.toList y.f0.data.toList
theorem heap_put_ {α:Type} [Inhabited α] {enc:α→Value} {w:World} {g n:Nat} {os:Array Obj} {cur:Array Value} {e:TypeId} {fr:Nat×Nat} (d:Array α) (hb:w.heap[g]?=some (.cells cur e fr)):
 (Go.Sort.grow (Go.Sort.putRow enc (Go.Sort.ahead w n) g 0 d) os).heap[g]?=some (.cells (Go.Sort.putCells enc 0 d cur) e fr):=by
 have hg:g<w.heap.size:=(Array.getElem?_eq_some_iff.1 hb).1;rw [Go.Sort.heap_grow_old _ _ (by simpa using hg)]
 simp [Go.Sort.putRow,Go.Sort.mapBlock,Go.Sort.ahead,Array.getElem?_modify,hb,Go.Sort.onCells]
theorem grownBy_put_ {α:Type} [Inhabited α] {enc:α→Value} {w:World} {g n:Nat} {os:Array Obj} (d:Array α):w.grownBy (Go.Sort.grow (Go.Sort.putRow enc (Go.Sort.ahead w n) g 0 d) os) (some g):=by
 refine⟨rfl,rfl,rfl,by simp,fun k hk hne=>?_⟩
 rw [Go.Sort.heap_grow_old _ _ (by simpa using hk)]
 have:g≠k:=fun e=>hne (by rw [e])
 simp [Go.Sort.putRow,Go.Sort.mapBlock,Go.Sort.ahead,Array.getElem?_modify,this]
theorem take_put_ (cur:Array Value) (ts:List Value) (h:ts.length≤cur.size):(Go.Sort.putCells id 0 ts.toArray cur).toList.take ts.length=ts:=by
 apply List.ext_getElem?;intro j;by_cases hj:j<ts.length
 ·rw [List.getElem?_take_of_lt hj,Array.getElem?_toList]
  simp [Go.Sort.putCells,hj,show j<cur.size by omega]
 ·rw [List.getElem?_take_eq_none (by omega),List.getElem?_eq_none (by omega)]
theorem flatK_keys (ks:List S39):Go.Sort.flatK encKey_ 2 ks.toArray=(flatKeys_ ks).toArray:=by
 apply Array.ext
 ·simp [flatKeys_len]
 ·intro i h1 h2
  have hi:i<ks.length*2:=by simpa using h1
  have hq:i / 2<ks.length:=by omega
  have hp:ks[i / 2]?=some ks[i / 2]:=List.getElem?_eq_getElem hq;obtain⟨g0,g1⟩:=flatKeys_get ks (i / 2) _ hp;have e1:(Go.Sort.flatK encKey_ 2 ks.toArray)[i]=(encKey_ ks.toArray[i / 2]!)[i % 2]! :=by
   have:=Go.Sort.get_flatK encKey_ 2 ks.toArray i (by simpa using hi)
   rw [getElem!_pos _ i (by simpa using hi)] at this
   exact this
  rw [e1];have e2:ks.toArray[i / 2]! =ks[i / 2]:=by simp [hq]
  rw [e2];have e3:(flatKeys_ ks).toArray[i]=(flatKeys_ ks)[i]'(by rw [flatKeys_len];exact hi):=by simp
  rw [e3];rcases(by omega:i % 2=0∨i % 2=1) with hm|hm
  ·have hh:i / 2*2=i:=by omega
   rw [hh] at g0;rw [(List.getElem?_eq_some_iff.1 g0).2,hm];rfl
  ·have hh:i / 2*2+1=i:=by omega
   rw [hh] at g1;rw [(List.getElem?_eq_some_iff.1 g1).2,hm];rfl
theorem compareBytes_neg:∀ a b:List UInt8,Lib.compareBytes a b<0↔a<b
 |[],[]=>by simp [Lib.compareBytes]
 |[],_ :: _=>by simp [Lib.compareBytes]
 |_ :: _,[]=>by simp [Lib.compareBytes]
 | a :: ra,b :: rb=>by
  unfold Lib.compareBytes;rw [List.cons_lt_cons_iff];by_cases h1:a<b
  ·simp [h1]
  ·rw [if_neg h1]
   by_cases h2:b<a
   ·rw [if_pos h2]
    have:¬ a=b:=fun e=>by subst e;exact h1 h2
    simp [h1,this]
   ·rw [if_neg h2]
    have:a=b:=by
     have:=UInt8.le_antisymm (UInt8.not_lt.1 h2) (UInt8.not_lt.1 h1);exact this
    simp [h1,this,compareBytes_neg ra rb]
theorem keyLt (x y:S39):ltOf keyCmp x y=decide (x.f0.data.toList<y.f0.data.toList):=by
 unfold ltOf keyCmp;simp only [compareBytes_neg]
theorem keySWO:Go.Sort.SWO (ltOf keyCmp) where
 irrefl x:=by rw [keyLt];simp
 trans x y z h1 h2:=by
  rw [keyLt] at *;simp only [decide_eq_true_eq] at *;exact List.lt_trans h1 h2
 ntrans x y z h1 h2:=by
  rw [keyLt] at *;simp only [decide_eq_false_iff_not] at *;exact List.not_lt.2 (List.le_trans (List.not_lt.1 h2) (List.not_lt.1 h1))
def sortKeys (ks:List S39):List S39:=(Go.Sort.pdq (ltOf keyCmp) ks.toArray 0 ks.length (Lib.bitLen ks.length) true true).toList
theorem sortKeys_len (ks:List S39):(sortKeys ks).length=ks.length:=by
 have h:=Go.Sort.pdq_sorts (ltOf keyCmp) keySWO ks.toArray 0 ks.length (Lib.bitLen ks.length) true true (Nat.zero_le _) (by simp) (Or.inl rfl)
 have:=h.1.1;unfold sortKeys;simpa using this
set_option maxHeartbeats 1000000 in
set_option maxRecDepth 100000 in
theorem keyCmp_calls (x y:S39) (W:World):Calls Tryz.prog 49 #[.agg (encKey_ x).toArray,.agg (encKey_ y).toArray] W fun e w'=>e=.returned (.int .i64 (keyCmp x y))∧∃ q os',w'=Go.Sort.grow (W.drewN q) os':=by
 have hcon:=fun W'=>Tryz.strings_Compare x.f0 y.f0 W';show Calls Tryz.prog 49 #[.agg #[.string x.f0,.string x.f1],.agg #[.string y.f0,.string y.f1]] W _;unfold keyCmp;generalize Lib.compareBytes x.f0.data.toList y.f0.data.toList=r at hcon ⊢
 go_enter Tryz.func49,Tryz.ntmps49
 go_wp2_with (go_at_call 50;refine(hcon _).mono ?_;rintro e w' ⟨rfl,rfl⟩)
 go_ret
 exact⟨rfl,0,_,by rw [Go.Sort.alloc_eq_grow,Go.Sort.alloc_eq_grow,Go.Sort.grow_grow];rfl⟩
set_option maxRecDepth 100000 in
theorem insKeyZero_ (c:Nat) (f:Value) (w:World):Calls Tryz.prog 101 #[.slice none 0 c,.int .i64 0,.int .i64 0,f] w fun e w'=>e=.returned (.tuple #[])∧w'=w:=by
 go_enter Tryz.func101,Tryz.ntmps101
 go_wp2
 go_loop [8] (fun i=>i=.int .i64 1) (fun _=>0)
 case atStart=>rfl
 case round=>
  subst hrel
  go_wp2
  go_end0
  exact⟨rfl,rfl⟩
set_option maxHeartbeats 2000000 in
set_option maxRecDepth 100000 in
theorem pdqKeyZero_ (c:Nat) (l:Int) (f:Value) (w:World):Calls Tryz.prog 79 #[.slice none 0 c,.int .i64 0,.int .i64 0,.int .i64 l,f] w fun e w'=>e=.returned (.tuple #[])∧w'=w:=by
 go_enter Tryz.func79,Tryz.ntmps79
 go_wp2
 go_loop [1,2] (fun a b=>a=.int .i64 0∧b=.int .i64 0) (fun _ _=>0)
 case atStart=>exact ⟨rfl,rfl⟩
 case round=>
  obtain⟨rfl,rfl⟩:=hrel
  go_wp2_with (go_at_call 101;refine(insKeyZero_ c f _).mono ?_;rintro e w' ⟨rfl,rfl⟩)
  refine bodyPost_ret (results_none rfl _ _ _) rfl ?_;exact⟨rfl,rfl⟩
set_option maxRecDepth 100000 in
theorem sortKeyZero_ (c:Nat) (f:Value) (w:World):Calls Tryz.prog 48 #[.slice none 0 c,f] w fun e w'=>e=.returned (.tuple #[])∧w'=w:=by
 have hl:=Tryz.bits_Len 0 w (by omega) (by omega)
 go_enter Tryz.func48,Tryz.ntmps48
 go_wp2_with (first|(go_at_call 78;refine hl.mono ?_;rintro e w' ⟨rfl,rfl⟩)|(go_at_call 79;refine(pdqKeyZero_ c _ f _).mono ?_;rintro e w' ⟨rfl,rfl⟩))
 go_end0
 exact⟨rfl,rfl⟩
theorem sortKeys_calls (V:Value) (ks:List S39) (w:World) (base:Nat) (ok:Nat→Prop) (hR:Kd.R k39 39 w base ok V ks) (hlen:ks.length<4611686018427387904):
 Calls Tryz.prog 48 #[V,.func (.func 49) #[] #[]] w fun e w'=>e=.returned (.tuple #[])∧Kd.R k39 39 w' base ok V (sortKeys ks)∧w.grownBy w' V.ownBlock:=by
 have ho:=keys_of_R_ hR;rcases ho.2 with ⟨rfl,hn⟩|⟨g,cap,cur,rfl,hbase,hb,h1,h2,h3,h4⟩
 ·obtain rfl:ks=[]:=List.length_eq_zero_iff.1 hn
  refine(sortKeyZero_ 0 _ w).mono ?_;rintro e w' ⟨rfl,rfl⟩;refine⟨rfl,?_,World.grownBy.refl _ _⟩;have:sortKeys []=[]:=List.length_eq_zero_iff.1 (sortKeys_len []);rw [this];exact hR
 ·have hH:Go.Sort.HoldsK encKey_ 2 w g 0 ks.toArray:=by
   unfold Go.Sort.HoldsK;rw [flatK_keys];intro j hj;have hj':j<ks.length*2:=by rw [← flatKeys_len];simpa using hj
   refine⟨?_,by simp [World.frozen?,hb]⟩
   have e1:(cur.toList.take (ks.length*2))[j]?=(flatKeys_ ks)[j]?:=by rw [h4]
   rw [List.getElem?_take_of_lt hj',Array.getElem?_toList] at e1;simp only [World.cell?,hb,Nat.zero_add];simp only [Option.isSome_none,Bool.false_eq_true,if_false];rw [e1];have hjl:j<(flatKeys_ ks).length:=by rw [flatKeys_len];exact hj'
   simp [hjl]
  have hgl:=(Array.getElem?_eq_some_iff.1 hb).1;have eg:∀ args w,(callFunc 49 args).run Tryz.prog w=.ok (.enter 49 args) w:=enters_of Tryz.func49 (by kernel_rfl) rfl
  have hc:=AnyQ.slices_SortFunc_eq Tryz.laySortKey 2 Tryz.isAgg39 Tryz.sizeOf39 encKey_ (fun _=>rfl) (fun x v hv=>by simp [encKey_] at hv;rcases hv with rfl|rfl <;> rfl) keyCmp keySWO 49 #[] g 0 cap ks.toArray w eg (fun _ _ _ _ x y=>keyCmp_calls x y _) hH hgl (by simpa using hlen)
  refine(show Calls Tryz.prog 48 _ _ _ from hc).mono ?_
  rintro e w' ⟨rfl,n,os,rfl⟩;refine⟨rfl,?_,?_⟩
  ·have hs:=sortKeys_len ks
   have hf:Go.Sort.flatK encKey_ 2 (Go.Sort.pdq (ltOf keyCmp) ks.toArray 0 ks.toArray.size (Lib.bitLen ks.toArray.size) true true)=(flatKeys_ (sortKeys ks)).toArray:=by
    rw [← flatK_keys];simp [sortKeys]
   unfold sortWorldK Go.Sort.putRowK;rw [hf];refine keys_own_ ?_ (fun k hk=>hR.1 k hk);rw [hs];exact⟨by rw [flatKeys_len,hs],.inr ⟨g,cap,_,rfl,hbase,heap_put_ _ hb,h1,h2,by simp [Go.Sort.putCells,h3],by
    have:=take_put_ cur (flatKeys_ (sortKeys ks)) (by rw [flatKeys_len,hs,h3];omega)
    rw [flatKeys_len,hs] at this;exact this⟩⟩
  ·exact grownBy_put_ _
theorem readEnd_kind (en:Int) (rest:List S89) (T:TagV):(∃ t,readEnd en rest T=(0,0,some t))∨∃ a e,e≠0∧readEnd en rest T=(a,e,none):=by
 cases rest with
 |nil=>exact .inl ⟨T,rfl⟩
 |cons p pt=>exact .inr ⟨p.f1,70,by decide,rfl⟩
theorem readF_kind {k m:Nat} {ps:List S89} {en:Int} {res:ReadRes} (h:readF k m ps en=some res):(∃ t,res=(0,0,some t))∨∃ a e,e≠0∧res=(a,e,none):=by
 unfold readF at h;obtain⟨⟨b,rest,l,s,r⟩,_,h⟩:=Option.bind_eq_some_iff.1 h;cases b with
 |false=>exact .inr ⟨_,70,by decide,by simpa using h.symm⟩
 | true=>
  simp only [if_true] at h;obtain⟨⟨e,rest2,vs⟩,_,h⟩:=Option.bind_eq_some_iff.1 h;simp only at h;by_cases he:e=0
  ·rw [if_pos he] at h
   unfold readU at h;cases rest2 with
   |nil=>exact .inl ⟨_,by simpa using h.symm⟩
   | cons p pt=>
    simp only at h;obtain⟨u,_,h⟩:=Option.bind_eq_some_iff.1 h;by_cases hu:u.toList=[117]
    ·rw [if_pos hu] at h
     obtain⟨⟨e3,rest3,ks⟩,_,h⟩:=Option.bind_eq_some_iff.1 h;simp only at h;by_cases h3:e3=0
     ·rw [if_pos h3] at h
      by_cases hk:ks.length=0
      ·rw [if_pos hk] at h;exact .inr ⟨_,70,by decide,by simpa using h.symm⟩
      ·rw [if_neg hk] at h
       rw [← Option.some.inj h];exact readEnd_kind en rest3 (l,s,r,vs,ks)
     ·rw [if_neg h3] at h;exact .inr ⟨_,e3,h3,by simpa using h.symm⟩
    ·rw [if_neg hu] at h;exact .inr ⟨_,70,by decide,by simpa using h.symm⟩
  ·rw [if_neg he] at h;exact .inr ⟨_,e,he,by simpa using h.symm⟩
def parseRes (r:ReadRes):ByteArray×ByteArray×ByteArray×List ByteArray×List S39×Int×Int:=match r.2.2 with
 |none=>(⟨#[]⟩,⟨#[]⟩,⟨#[]⟩,[],[],r.1,r.2.1)
 |some t=>(t.1,t.2.1,t.2.2.1,sortTexts t.2.2.2.1,sortKeys t.2.2.2.2,0,0)
def tag_Parse.f (k:Nat) (a0:ByteArray):Option (ByteArray×ByteArray×ByteArray×List ByteArray×List S39×Int×Int):=
 if a0.size>65536 then some (⟨#[]⟩,⟨#[]⟩,⟨#[]⟩,[],[],0,2) else(tag_lower.f a0).bind fun t=>if t.toList=[114,111,111,116] then some (⟨#[]⟩,⟨#[]⟩,⟨#[]⟩,[],[],0,0) else
  (tag_split.f k a0).bind fun ps=>if ps.length<4611686018427387904 then(readF k k ps (a0.size:Int)).bind fun r=>(match r.2.2 with|none=>some ()|some t=>if t.2.2.2.1.length<4611686018427387904∧t.2.2.2.2.length<4611686018427387904 then some () else none).bind fun _=>some (parseRes r) else none
theorem rd7cells {W:World} {g:Nat} {A0:Option Addr} {n c0:Nat} {i:Int} {l s r:ByteArray} {V3 V4:Value} (h:RdB W g A0 n c0 i l s r V3 V4):
 W.cell? ⟨g,2,none⟩=some (.string l)∧W.cell? ⟨g,3,none⟩=some (.string s)∧W.cell? ⟨g,4,none⟩=some (.string r)∧W.cell? ⟨g,5,none⟩=some V3∧W.cell? ⟨g,6,none⟩=some V4:=
 ⟨(blk_cell h 2).trans rfl,(blk_cell h 3).trans rfl,(blk_cell h 4).trans rfl,(blk_cell h 5).trans rfl,(blk_cell h 6).trans rfl⟩
def TgB (W:World) (tb:Nat) (l s r:ByteArray) (V3 V4:Value):Prop:=W.heap[tb]?=some (.cells #[.string l,.string s,.string r,V3,V4] 25 (0,0))
theorem TgB.cells {W:World} {tb:Nat} {l s r:ByteArray} {V3 V4:Value} (h:TgB W tb l s r V3 V4):
 (W.cell? ⟨tb,0,none⟩=some (.string l)∧W.cell? ⟨tb,1,none⟩=some (.string s)∧W.cell? ⟨tb,2,none⟩=some (.string r)∧W.cell? ⟨tb,3,none⟩=some V3∧W.cell? ⟨tb,4,none⟩=some V4)∧
 W.frozen? ⟨tb,0,none⟩=false∧W.frozen? ⟨tb,1,none⟩=false∧W.frozen? ⟨tb,2,none⟩=false∧W.frozen? ⟨tb,3,none⟩=false∧W.frozen? ⟨tb,4,none⟩=false:=
 ⟨⟨(blk_cell h 0).trans rfl,(blk_cell h 1).trans rfl,(blk_cell h 2).trans rfl,(blk_cell h 3).trans rfl,(blk_cell h 4).trans rfl⟩,blk_frozen h 0,blk_frozen h 1,blk_frozen h 2,blk_frozen h 3,blk_frozen h 4⟩
theorem TgB.put {W:World} {tb:Nat} {l s r l' s' r':ByteArray} {V3 V4 V3' V4':Value} (h:TgB W tb l s r V3 V4):
 TgB (((((W.setCell ⟨tb,0,none⟩ (.string l')).setCell ⟨tb,1,none⟩ (.string s')).setCell ⟨tb,2,none⟩ (.string r')).setCell ⟨tb,3,none⟩ V3').setCell ⟨tb,4,none⟩ V4') tb l' s' r' V3' V4':=
 (blk_put (cs':=#[.string l',.string s',.string r',V3',V4']) (blk_put (cs':=#[.string l',.string s',.string r',V3',V4]) (blk_put (cs':=#[.string l',.string s',.string r',V3,V4]) (blk_put (cs':=#[.string l',.string s',.string r,V3,V4]) (blk_put (cs':=#[.string l',.string s,.string r,V3,V4]) h 0 (.string l') rfl) 1 (.string s') rfl) 2 (.string r') rfl) 3 V3' rfl) 4 V4' rfl)
theorem TgB.keepR {α:Type} {d:Kd α} {e:Nat} {base:Nat} {ok:Nat→Prop} {v:Value} {xs:List α} {W:World} {tb:Nat} {l s r l' s' r':ByteArray} {V3 V4 V3' V4':Value} (h:TgB W tb l s r V3 V4) (hR:d.R e W base ok v xs) (ht:∀ q,q ∈ e :: d.E→q≠25):
 d.R e (((((W.setCell ⟨tb,0,none⟩ (.string l')).setCell ⟨tb,1,none⟩ (.string s')).setCell ⟨tb,2,none⟩ (.string r')).setCell ⟨tb,3,none⟩ V3').setCell ⟨tb,4,none⟩ V4') base ok v xs:=by
 have h1:=blk_set h 0 (.string l');have h2:=blk_set h1 1 (.string s');have h3:=blk_set h2 2 (.string r');have h4:=blk_set h3 3 V3';exact Kd.R_set (Kd.R_set (Kd.R_set (Kd.R_set (Kd.R_set hR h ht 0 _) h1 ht 1 _) h2 ht 2 _) h3 ht 3 _) h4 ht 4 _
set_option maxHeartbeats 8000000 in
set_option maxRecDepth 100000 in
theorem tag_Parse.calls (k:Nat) (a0:ByteArray) (r1:ByteArray) (r2:ByteArray) (r3:ByteArray) (r4:List ByteArray) (r5:List (S39)) (r6:Int) (r7:Int) (w:World) (h:tag_Parse.f k a0=some (r1,r2,r3,r4,r5,r6,r7)):
 Calls Tryz.prog 21 #[.string a0] w fun e w'=>∃ v3_ v4_:Value,e=.returned (.tuple #[.agg #[.string r1,.string r2,.string r3,v3_,v4_],.int .i64 r6,.int .i64 r7])∧Kd.R Kd.string 9 w' w.heap.size (fun _=>True) v3_ r4∧Kd.R k39 39 w' w.heap.size (fun _=>True) v4_ r5∧Below w.heap.size w w':=by
 unfold tag_Parse.f at h;have HB:=ak_ (Below.refl w.heap.size w);by_cases h1:a0.size>65536
 ·obtain h:=Option.some.inj ((if_pos h1).symm.trans h)
  obtain⟨rfl,rfl,rfl,rfl,rfl,rfl,rfl⟩:_∧_∧_∧_∧_∧_∧_:=by simpa only [Prod.mk.injEq] using h
  have hd1:decide (65536<(a0.size:Int))=true:=decide_eq_true (by omega)
  have hd2:decide (65536<a0.size)=true:=decide_eq_true h1;clear h h1
  go_enter Tryz.func21,Tryz.ntmps21
  go_wp2_with ((with_reducible refine gate_dst (N:=2) rfl ?_);refine box_event ?hg (N:=2) ?hd (cs:=#[.string ⟨#[]⟩,.string ⟨#[]⟩,.string ⟨#[]⟩,.slice none 0 0,.slice none 0 0]) (t:=25) ?hr ?_;(case hd=>rfl);(case hg=>rfl);(case hr=>first|(go_simp;done)|(go_simp;rfl));intro tb hg w1 hbox hb;have HTB:=ak_ hbox;have HGE:=ak_ (Nat.le_of_eq hg.symm);have HB1:=ak_ hb;clear hg hbox hb;obtain⟨⟨t0,t1,t2,t3,t4⟩,g0,g1,g2,g3,g4⟩:=TgB.cells HTB.out)
  refine bodyPost_ret (results_ctt rfl _ _ tb 25 #[.string ⟨#[]⟩,.string ⟨#[]⟩,.string ⟨#[]⟩,.slice none 0 0,.slice none 0 0] (0,0) _ rfl (TgB.put HTB.out) Tryz.underlying25 rfl (by kernel_rfl)) rfl ?_
  exact⟨_,_,rfl,Kd.R_nil _ _ _ _ _,Kd.R_nil _ _ _ _ _,below_set (below_set (below_set (below_set (below_set HB1.out HGE.out) HGE.out) HGE.out) HGE.out) HGE.out⟩
 ·replace h:=(if_neg h1).symm.trans h
  have hd1:decide (65536<(a0.size:Int))=false:=decide_eq_false (by omega)
  have hd2:decide (65536<a0.size)=false:=decide_eq_false h1;clear h1;obtain⟨t,hl,h⟩:=Option.bind_eq_some_iff.1 h;have HL:=ak_ hl;clear hl;by_cases h2:t.toList=[114,111,111,116]
  ·obtain h:=Option.some.inj ((if_pos h2).symm.trans h)
   obtain⟨rfl,rfl,rfl,rfl,rfl,rfl,rfl⟩:_∧_∧_∧_∧_∧_∧_:=by simpa only [Prod.mk.injEq] using h
   have hb0:(t.toList==([114,111,111,116]:List UInt8))=true:=beq_iff_eq.mpr h2;clear h h2
   go_enter Tryz.func21,Tryz.ntmps21
   go_wp2_with (first
    |((with_reducible refine gate_dst (N:=2) rfl ?_);refine box_event ?hg (N:=2) ?hd (cs:=#[.string ⟨#[]⟩,.string ⟨#[]⟩,.string ⟨#[]⟩,.slice none 0 0,.slice none 0 0]) (t:=25) ?hr ?_;(case hd=>rfl);(case hg=>rfl);(case hr=>first|(go_simp;done)|(go_simp;rfl));intro tb hg w1 hbox hb;have HTB:=ak_ (show TgB w1 tb ⟨#[]⟩ ⟨#[]⟩ ⟨#[]⟩ (.slice none 0 0) (.slice none 0 0) from hbox);have HGE:=ak_ (Nat.le_of_eq hg.symm);have HB1:=ak_ hb;clear hg hbox hb;obtain⟨⟨t0,t1,t2,t3,t4⟩,g0,g1,g2,g3,g4⟩:=HTB.out.cells)
    |(go_at_call 44;refine(tag_lower.calls _ _ _ HL.out).mono ?_;rintro e w2 ⟨rfl,hb⟩;have HT':=ak_ (show TgB w2 tb ⟨#[]⟩ ⟨#[]⟩ ⟨#[]⟩ (.slice none 0 0) (.slice none 0 0) from blk_below HTB.out hb);have HB':=ak_ (below_step HB1.out hb);clear HTB HB1 hb t0 t1 t2 t3 t4 g0 g1 g2 g3 g4;have HTB:=HT';have HB1:=HB';clear HT' HB';obtain⟨⟨t0,t1,t2,t3,t4⟩,g0,g1,g2,g3,g4⟩:=HTB.out.cells))
   refine bodyPost_ret (results_ctt rfl _ _ tb 25 #[.string ⟨#[]⟩,.string ⟨#[]⟩,.string ⟨#[]⟩,.slice none 0 0,.slice none 0 0] (0,0) _ rfl (TgB.put HTB.out) Tryz.underlying25 rfl (by kernel_rfl)) rfl ?_
   exact⟨_,_,rfl,Kd.R_nil _ _ _ _ _,Kd.R_nil _ _ _ _ _,below_set (below_set (below_set (below_set (below_set HB1.out HGE.out) HGE.out) HGE.out) HGE.out) HGE.out⟩
  ·replace h:=(if_neg h2).symm.trans h
   have hb0:(t.toList==([114,111,111,116]:List UInt8))=false:=beq_eq_false_iff_ne.mpr h2;clear h2;obtain⟨ps,hp,h⟩:=Option.bind_eq_some_iff.1 h;have HP:=ak_ hp;have H:=ak_ h;clear hp h
   go_enter Tryz.func21,Tryz.ntmps21
   go_upto_region 6 with (first
    |((with_reducible refine gate_dst (N:=2) rfl ?_);refine box_event ?hg (N:=2) ?hd (cs:=#[.string ⟨#[]⟩,.string ⟨#[]⟩,.string ⟨#[]⟩,.slice none 0 0,.slice none 0 0]) (t:=25) ?hr ?_;(case hd=>rfl);(case hg=>rfl);(case hr=>first|(go_simp;done)|(go_simp;rfl));intro tb hg w1 hbox hb;have HTB:=ak_ (show TgB w1 tb ⟨#[]⟩ ⟨#[]⟩ ⟨#[]⟩ (.slice none 0 0) (.slice none 0 0) from hbox);have HGE:=ak_ (Nat.le_of_eq hg.symm);have HB1:=ak_ hb;clear hg hbox hb;obtain⟨⟨t0,t1,t2,t3,t4⟩,g0,g1,g2,g3,g4⟩:=HTB.out.cells)
    |(go_at_call 44;refine(tag_lower.calls _ _ _ HL.out).mono ?_;rintro e w2 ⟨rfl,hb⟩;have HT':=ak_ (show TgB w2 tb ⟨#[]⟩ ⟨#[]⟩ ⟨#[]⟩ (.slice none 0 0) (.slice none 0 0) from blk_below HTB.out hb);have HB':=ak_ (below_step HB1.out hb);clear HTB HB1 hb t0 t1 t2 t3 t4 g0 g1 g2 g3 g4;have HTB:=HT';have HB1:=HB';clear HT' HB';obtain⟨⟨t0,t1,t2,t3,t4⟩,g0,g1,g2,g3,g4⟩:=HTB.out.cells)
    |(go_at_call 45;refine(tag_split.calls k _ _ _ HP.out).mono ?_;rintro e w3 ⟨V0,rfl,ho,hb⟩;obtain⟨A0,c0,rfl,hc0,hC⟩:=Kd.R_reads ho;have HC:=ak_ hC;have HT':=ak_ (show TgB w3 tb ⟨#[]⟩ ⟨#[]⟩ ⟨#[]⟩ (.slice none 0 0) (.slice none 0 0) from blk_below HTB.out hb);have HB':=ak_ (below_step HB1.out hb);clear HTB HB1 hb ho hC hc0 t0 t1 t2 t3 t4 g0 g1 g2 g3 g4;have HTB:=HT';have HB1:=HB';clear HT' HB')
    |((with_reducible refine gate_dst (N:=19) rfl ?_);refine box_event ?hg (N:=19) ?hd (cs:=#[.slice A0 ps.length c0,.int .i64 0,.string ⟨#[]⟩,.string ⟨#[]⟩,.string ⟨#[]⟩,.slice none 0 0,.slice none 0 0]) (t:=67) ?hr ?_;(case hd=>rfl);(case hg=>rfl);(case hr=>first|(go_simp;done)|(go_simp;rfl));intro g hg w4 hbox hb;have HR:=ak_ (show RdB w4 g A0 ps.length c0 ((0:Nat):Int) ⟨#[]⟩ ⟨#[]⟩ ⟨#[]⟩ (.slice none 0 0) (.slice none 0 0) from hbox);have HG:=ak_ (Nat.le_of_eq hg.symm);have HB4:=ak_ hb;clear hg hbox hb))
   have HW3:=ak_ HB1.out.size;by_cases hps:ps.length<4611686018427387904
   ·have h:=(if_pos hps).symm.trans H.out
    clear H hps;obtain⟨res,hf,h⟩:=Option.bind_eq_some_iff.1 h;have HF:=ak_ hf;rcases readF_kind hf with ⟨⟨l,s,r,vs,ks⟩,rfl⟩|⟨a,e,he,rfl⟩
    ·obtain ⟨_,hlen,h⟩:=Option.bind_eq_some_iff.1 h
     have hlen2:vs.length<4611686018427387904∧ks.length<4611686018427387904:=by
      by_cases hc:vs.length<4611686018427387904∧ks.length<4611686018427387904
      ·exact hc
      ·simp only [if_neg hc] at hlen;cases hlen
     obtain h:=Option.some.inj h;obtain⟨rfl,rfl,rfl,rfl,rfl,rfl,rfl⟩:_∧_∧_∧_∧_∧_∧_:=by simpa only [parseRes,Prod.mk.injEq] using h
     have HLEN:=ak_ hlen2;clear h hlen hlen2 hf
     go_upto_region 9 with (go_at_call 46;refine(read_ k k g c0 _ A0 ps _ w3 _ HR.out HB4.out HG.out HC.out HF.out).mono ?_;rintro e w5 ⟨rfl,hp⟩;have HP:=ak_ hp;have HT':=ak_ (show TgB w5 tb ⟨#[]⟩ ⟨#[]⟩ ⟨#[]⟩ (.slice none 0 0) (.slice none 0 0) from blk_below HTB.out hp.below);have HB':=ak_ (below_step HB1.out hp.below);clear HTB HB1 hp;have HTB:=HT';have HB1:=HB';clear HT' HB';obtain⟨⟨t0,t1,t2,t3,t4⟩,g0,g1,g2,g3,g4⟩:=HTB.out.cells)
     obtain⟨wS,i',V3,V4,hK⟩:=HP.out.good _ rfl;obtain⟨A3,c3,rfl⟩:=Kd.R_slice hK.2.1;obtain⟨A4,c4,rfl⟩:=Kd.R_slice hK.2.2.1;have HR5:=ak_ (show RdB w5 g A0 ps.length c0 (i':Int) l s r (.slice A3 vs.length c3) (.slice A4 ks.length c4) from hK.1)
     have HV:=ak_ (show Kd.R Kd.string 9 w5 w3.heap.size (fun _=>True) (.slice A3 vs.length c3) vs from hK.2.1)
     have HKK:=ak_ (show Kd.R k39 39 w5 w3.heap.size (fun _=>True) (.slice A4 ks.length c4) ks from Kd.R_mono hK.2.2.1 (fun _ _=>trivial))
     clear hK HP HR HB4 HG HC HF;obtain⟨z2,z3,z4,z5,z6⟩:=rd7cells HR5.out
     go_upto_region 11 with (first
      |(go_at_call 47;refine(sortTexts_calls _ vs _ w3.heap.size (fun _=>True) HV.out HLEN.out.1).mono ?_;rintro e w6 ⟨rfl,ho,hg⟩;have HR':=ak_ (show RdB w6 g A0 ps.length c0 (i':Int) l s r (.slice A3 vs.length c3) (.slice A4 ks.length c4) from blk_grown HR5.out hg (Kd.R_ne HV.out HR5.out (by decide)));have HT':=ak_ (show TgB w6 tb ⟨#[]⟩ ⟨#[]⟩ ⟨#[]⟩ (.slice none 0 0) (.slice none 0 0) from blk_grown HTB.out hg (Kd.R_ne HV.out HTB.out (by decide)));have HK':=ak_ (Kd.R_over HKK.out HV.out (by decide) hg);have HB':=ak_ (HB1.out.grown hg HB1.out.size (fun k hk=>Nat.le_trans HW3.out (Kd.R_base HV.out k hk)));have HV':=ak_ ho;clear HR5 HTB HKK HB1 HV ho hg z2 z3 z4 z5 z6 t0 t1 t2 t3 t4 g0 g1 g2 g3 g4;have HR5:=HR';have HTB:=HT';have HKK:=HK';have HB1:=HB';have HV:=HV';clear HR' HT' HK' HB' HV';obtain⟨z2,z3,z4,z5,z6⟩:=rd7cells HR5.out)
      |(go_at_call 48;refine(sortKeys_calls _ ks _ w3.heap.size (fun _=>True) HKK.out HLEN.out.2).mono ?_;rintro e w7 ⟨rfl,ho,hg⟩;have HR':=ak_ (show RdB w7 g A0 ps.length c0 (i':Int) l s r (.slice A3 vs.length c3) (.slice A4 ks.length c4) from blk_grown HR5.out hg (Kd.R_ne HKK.out HR5.out (by decide)));have HT':=ak_ (show TgB w7 tb ⟨#[]⟩ ⟨#[]⟩ ⟨#[]⟩ (.slice none 0 0) (.slice none 0 0) from blk_grown HTB.out hg (Kd.R_ne HKK.out HTB.out (by decide)));have HV':=ak_ (Kd.R_over HV.out HKK.out (by decide) hg);have HB':=ak_ (HB1.out.grown hg HB1.out.size (fun k hk=>Nat.le_trans HW3.out (Kd.R_base HKK.out k hk)));have HK':=ak_ ho;clear HR5 HTB HKK HB1 HV ho hg z2 z3 z4 z5 z6;have HR5:=HR';have HTB:=HT';have HKK:=HK';have HB1:=HB';have HV:=HV';clear HR' HT' HK' HB' HV';obtain⟨z2,z3,z4,z5,z6⟩:=rd7cells HR5.out;obtain⟨⟨t0,t1,t2,t3,t4⟩,g0,g1,g2,g3,g4⟩:=HTB.out.cells))
     go_wp2
     refine bodyPost_ret (results_ctt rfl _ _ tb 25 #[.string l,.string s,.string r,.slice A3 vs.length c3,.slice A4 ks.length c4] (0,0) _ rfl (TgB.put HTB.out) Tryz.underlying25 rfl (by kernel_rfl)) rfl ?_
     exact⟨_,_,rfl,Kd.R_lower (HTB.out.keepR HV.out (by decide)) HW3.out,Kd.R_lower (HTB.out.keepR HKK.out (by decide)) HW3.out,below_set (below_set (below_set (below_set (below_set HB1.out HGE.out) HGE.out) HGE.out) HGE.out) HGE.out⟩
    ·obtain ⟨_,_,h⟩:=Option.bind_eq_some_iff.1 h
     obtain h:=Option.some.inj h;obtain⟨rfl,rfl,rfl,rfl,rfl,rfl,rfl⟩:_∧_∧_∧_∧_∧_∧_:=by simpa only [parseRes,Prod.mk.injEq] using h
     have hb1:(e==(0:Int))=false:=beq_eq_false_iff_ne.mpr he;have hb2:(e != (0:Int))=true:=bne_iff_ne.mpr he;clear h he hf
     go_wp2_with (go_at_call 46;refine(read_ k k g c0 _ A0 ps _ w3 _ HR.out HB4.out HG.out HC.out HF.out).mono ?_;rintro e w5 ⟨rfl,hp⟩;have HP:=ak_ hp;have HT':=ak_ (show TgB w5 tb ⟨#[]⟩ ⟨#[]⟩ ⟨#[]⟩ (.slice none 0 0) (.slice none 0 0) from blk_below HTB.out hp.below);have HB':=ak_ (below_step HB1.out hp.below);clear HTB HB1 hp;have HTB:=HT';have HB1:=HB';clear HT' HB';obtain⟨⟨t0,t1,t2,t3,t4⟩,g0,g1,g2,g3,g4⟩:=HTB.out.cells)
     refine bodyPost_ret (results_ctt rfl _ _ tb 25 #[.string ⟨#[]⟩,.string ⟨#[]⟩,.string ⟨#[]⟩,.slice none 0 0,.slice none 0 0] (0,0) _ rfl (TgB.put HTB.out) Tryz.underlying25 rfl (by kernel_rfl)) rfl ?_
     exact⟨_,_,rfl,Kd.R_nil _ _ _ _ _,Kd.R_nil _ _ _ _ _,below_set (below_set (below_set (below_set (below_set HB1.out HGE.out) HGE.out) HGE.out) HGE.out) HGE.out⟩
   ·exact absurd ((if_neg hps).symm.trans H.out) (by simp)
end Go.Proofs.YtphjhbppjakocaaGreatDoor.PTag
