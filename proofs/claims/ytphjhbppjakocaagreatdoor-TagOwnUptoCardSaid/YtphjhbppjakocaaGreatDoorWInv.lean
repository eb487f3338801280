/- Several texts of this claim in one: WInv, WFour, WInvWords, WAt, PU0, PU8, KeyC, PU1, PU11, PU12, PU14, PU2, PU3, QClK, QClS; conditions: those that each theorem states. -/
import Derived.Test.YtphjhbppjakocaaGreatDoorWTab
import Derived.Test.YtphjhbppjakocaaGreatDoorWN
import Derived.Test.YtphjhbppjakocaaGreatDoorProg
import Derived.Below
import Derived.Deep.Draws
import Derived.Deep.AppendLies
import Derived.Maps.AppendAt
import Derived.OwnWalk
import Derived.Laws.BytesArg
import Derived.Laws.MakeOwn
import Derived.Laws.OwnMore
import Derived.Deep.OwnRows
import Derived.Tactics
import Derived.Lib.ConvBytes
import Derived.Laws.Slices
import Derived.WalkKit
import Derived.KernelRfl
import Derived.RowKit3
import Derived.Deep.LoopGhost
import Derived.Deep.QuietTactic
import Derived.BigQuiet
import Derived.WideLaws
import Derived.Deep.DeepCutAuto
import Derived.Deep.CutBlock
import Derived.Deep.RegionHeld3
import Derived.Laws.Rows
import Derived.Lib.AppendStr
import Derived.ArgAppend
import Derived.Laws.IdiomCopy
import Derived.OrdersHeld
import Derived.Laws.BitsLemmas
import Derived.RowKit
import Derived.Sort.OwnSorted
import Derived.Sort.Walk0
import Derived.Test.YtphjhbppjakocaaGreatDoorWWords
import Derived.Test.YtphjhbppjakocaaGreatDoorShelf
set_option linter.unusedVariables false
set_option linter.unusedSimpArgs false
namespace Go.Proofs.YtphjhbppjakocaaGreatDoorW.PrintLast
section
variable {P:Program} {ops:Array Oper} {Q:Exit→Act→World→Prop} {md:Region.Mode} {T:Bool×List (List Nat×List Nat)} {B:List Nat} {O:List Nat} {b:Nat→Bool} {i j n:Nat}
end
section
variable {P:Program} {ops:Array Oper} {Q:Exit→Act→World→Prop} {md:Region.Mode} {S:World→Prop} {ds:List Nat} {T:Bool×List (List Nat×List Nat)}
end
end Go.Proofs.YtphjhbppjakocaaGreatDoorW.PrintLast
namespace Go.Proofs.YtphjhbppjakocaaGreatDoorW.PrintWords
open Go.RowKit
end Go.Proofs.YtphjhbppjakocaaGreatDoorW.PrintWords
namespace Go.Proofs.YtphjhbppjakocaaGreatDoorW.PrintLast
section
variable {ops:Array Oper} {a:Act} {o og:Oper} {g:Nat} {t:Tmp} {u:Bool}
end
end Go.Proofs.YtphjhbppjakocaaGreatDoorW.PrintLast
namespace Go.Proofs.YtphjhbppjakocaaGreatDoorW.PrintWords
open Go.RowKit
section
variable {w w' u:World} {m B g:Nat} {o:Obj} {row:Option Nat} {S:Nat→Prop} {a:Addr} {v:Value}
end
namespace Kd
section
variable {α:Type} {d:Kd α} {e base n m:Nat} {ok:Nat→Prop} {w w':World} {v:Value} {A:Option Addr} {xs:List α}
end
end Kd
end Go.Proofs.YtphjhbppjakocaaGreatDoorW.PrintWords
namespace Go.Proofs.YtphjhbppjakocaaGreatDoor.PTag
open Go.RowKit Go.Proofs.YtphjhbppjakocaaGreatDoorW.PrintWords Go.Proofs.YtphjhbppjakocaaGreatDoorW.PrintLast Go.Proofs.YtphjhbppjakocaaGreatDoorW.PrintMore
attribute [local go_sem] max2_int min2_int max_two min_two max_three min_three max_four min_four
def errW:Option Int→Value
 |none=>.nilIface
 |some c=>.iface 0 (.int .i64 c)
theorem hx_ {w W:World} {p:Addr} {v:Value} (hb:Below w.heap.size w W) (h:w.cell? p=some v):W.cell? p=some v:=(hb.cell (World.block_lt_of_cell? w _ h)).trans h
theorem errW_none:errW none=.nilIface:=rfl
theorem errW_some (c:Int):errW (some c)=.iface 0 (.int .i64 c):=rfl
theorem info3:(Tryz.prog.info? 3).map (fun i=>(i.zero,i.size,i.bytes))=some (some (.int .i64 0),1,8):=by kernel_rfl
theorem info9:(Tryz.prog.info? 9).map (fun i=>(i.zero,i.size,i.bytes))=some (some (.string ⟨#[]⟩),1,16):=by kernel_rfl
theorem info25:(Tryz.prog.info? 25).map (fun i=>(i.zero,i.size,i.bytes))=some (some (.agg #[(.string ⟨#[]⟩),(.string ⟨#[]⟩),(.string ⟨#[]⟩),(.slice none 0 0),(.slice none 0 0)]),5,96):=by kernel_rfl
theorem info39:(Tryz.prog.info? 39).map (fun i=>(i.zero,i.size,i.bytes))=some (some (.agg #[(.string ⟨#[]⟩),(.string ⟨#[]⟩)]),2,32):=by kernel_rfl
theorem info89:(Tryz.prog.info? 89).map (fun i=>(i.zero,i.size,i.bytes))=some (some (.agg #[(.string ⟨#[]⟩),(.int .i64 0)]),2,24):=by kernel_rfl
structure S39 where
 f0:ByteArray
 f1:ByteArray
def z39:S39:=⟨(⟨#[]⟩:ByteArray),(⟨#[]⟩:ByteArray)⟩
def k39:Kd S39:=Kd.iso (Kd.pair Kd.string Kd.string) (fun x:S39=>(x.f0,x.f1))
theorem k39_open {w:World} {x:S39} {cs:List Value} (h:k39.K w x cs):cs=[.string x.f0,.string x.f1]:=by
 obtain⟨_,_,rfl,rfl,rfl⟩:=h;exact rfl
theorem k39_openM {w:World} {base:Nat} {ok:Nat→Prop} {x:S39} {cs:List Value} (h:k39.M w base ok x cs):cs=[.string x.f0,.string x.f1]:=by
 obtain⟨_,_,rfl,rfl,rfl⟩:=h;exact rfl
theorem k39_mk (w:World) (x:S39)  :k39.K w x [.string x.f0,.string x.f1]:=⟨[.string x.f0],[.string x.f1],rfl,rfl,rfl⟩
theorem k39_mkM (w:World) (base:Nat) (ok:Nat→Prop) (x:S39)  :k39.M w base ok x [.string x.f0,.string x.f1]:=⟨[.string x.f0],[.string x.f1],rfl,rfl,rfl⟩
def rd_T39 (xs:List S39) (i:Int):S39:=xs.getD i.toNat z39
theorem at_T39 {w:World} {A:Option Addr} {n:Nat} {xs:List S39} (h:Kd.C k39 w A n xs) (i:Int) (h0:0≤i) (h1:i<n):∃ ad,A=some ad∧w.cell? (ad.add (i.toNat*2))=some (.string (rd_T39 xs i).f0)∧w.cell? ⟨(ad.add (i.toNat*2)).block,(ad.add (i.toNat*2)).off+1,none⟩=some (.string (rd_T39 xs i).f1):=by
 obtain⟨ad,c,e,_,hK,hc0⟩:=Kd.C_get h z39 i h0 h1;have hc:∀ j u,c[j]?=some u→w.cell? (ad.add (i.toNat*2+j))=some u:=hc0;obtain rfl:=k39_open hK;exact⟨ad,e,hc 0 _ rfl,by rw [← add_field _ _ 1 (by omega)];exact hc 1 _ rfl⟩
structure S89 where
 f0:ByteArray
 f1:Int
def z89:S89:=⟨(⟨#[]⟩:ByteArray),(0:Int)⟩
def k89:Kd S89:=Kd.iso (Kd.pair Kd.string (Kd.int .i64)) (fun x:S89=>(x.f0,x.f1))
theorem k89_open {w:World} {x:S89} {cs:List Value} (h:k89.K w x cs):cs=[.string x.f0,.int .i64 x.f1]:=by
 obtain⟨_,_,rfl,rfl,rfl⟩:=h;exact rfl
theorem k89_mkM (w:World) (base:Nat) (ok:Nat→Prop) (x:S89)  :k89.M w base ok x [.string x.f0,.int .i64 x.f1]:=⟨[.string x.f0],[.int .i64 x.f1],rfl,rfl,rfl⟩
def rd_T89 (xs:List S89) (i:Int):S89:=xs.getD i.toNat z89
theorem at_T89 {w:World} {A:Option Addr} {n:Nat} {xs:List S89} (h:Kd.C k89 w A n xs) (i:Int) (h0:0≤i) (h1:i<n):∃ ad,A=some ad∧w.cell? (ad.add (i.toNat*2))=some (.string (rd_T89 xs i).f0)∧w.cell? ⟨(ad.add (i.toNat*2)).block,(ad.add (i.toNat*2)).off+1,none⟩=some (.int .i64 (rd_T89 xs i).f1):=by
 obtain⟨ad,c,e,_,hK,hc0⟩:=Kd.C_get h z89 i h0 h1;have hc:∀ j u,c[j]?=some u→w.cell? (ad.add (i.toNat*2+j))=some u:=hc0;obtain rfl:=k89_open hK;exact⟨ad,e,hc 0 _ rfl,by rw [← add_field _ _ 1 (by omega)];exact hc 1 _ rfl⟩
structure S25 where
 f0:ByteArray
 f1:ByteArray
 f2:ByteArray
 f3:(List ByteArray)
 f4:(List S39)
def z25:S25:=⟨(⟨#[]⟩:ByteArray),(⟨#[]⟩:ByteArray),(⟨#[]⟩:ByteArray),([]:List ByteArray),([]:List S39)⟩
def k25:Kd S25:=Kd.iso (Kd.pair Kd.string (Kd.pair Kd.string (Kd.pair Kd.string (Kd.pair (Kd.slice 9 Kd.string) (Kd.slice 39 k39))))) (fun x:S25=>(x.f0,x.f1,x.f2,x.f3,x.f4))
theorem k25_open {w:World} {x:S25} {cs:List Value} (h:k25.K w x cs):∃ A3 c3 A4 c4,cs=[.string x.f0,.string x.f1,.string x.f2,.slice A3 x.f3.length c3,.slice A4 x.f4.length c4]∧x.f3.length≤c3∧Kd.string.C w A3 x.f3.length x.f3∧x.f4.length≤c4∧k39.C w A4 x.f4.length x.f4:=by
 obtain⟨_,_,rfl,rfl,⟨_,_,rfl,rfl,⟨_,_,rfl,rfl,⟨_,_,rfl,⟨A3,c3,rfl,l3,g3⟩,⟨A4,c4,rfl,l4,g4⟩⟩⟩⟩⟩:=h;exact⟨A3,c3,A4,c4,rfl,l3,g3,l4,g4⟩
theorem k25_mk (w:World) (x:S25) {A3:Option Addr} {c3:Nat} (l3:x.f3.length≤c3) (g3:Kd.string.C w A3 x.f3.length x.f3) {A4:Option Addr} {c4:Nat} (l4:x.f4.length≤c4) (g4:k39.C w A4 x.f4.length x.f4):k25.K w x [.string x.f0,.string x.f1,.string x.f2,.slice A3 x.f3.length c3,.slice A4 x.f4.length c4]:=⟨[.string x.f0],[.string x.f1,.string x.f2,.slice A3 x.f3.length c3,.slice A4 x.f4.length c4],rfl,rfl,⟨[.string x.f1],[.string x.f2,.slice A3 x.f3.length c3,.slice A4 x.f4.length c4],rfl,rfl,⟨[.string x.f2],[.slice A3 x.f3.length c3,.slice A4 x.f4.length c4],rfl,rfl,⟨[.slice A3 x.f3.length c3],[.slice A4 x.f4.length c4],rfl,⟨A3,c3,rfl,l3,g3⟩,⟨A4,c4,rfl,l4,g4⟩⟩⟩⟩⟩
theorem k25_mkM (w:World) (base:Nat) (ok:Nat→Prop) (x:S25) {v3:Value} (g3:Kd.string.R 9 w base ok v3 x.f3) {v4:Value} (g4:k39.R 39 w base ok v4 x.f4):k25.M w base ok x [.string x.f0,.string x.f1,.string x.f2,v3,v4]:=⟨[.string x.f0],[.string x.f1,.string x.f2,v3,v4],rfl,rfl,⟨[.string x.f1],[.string x.f2,v3,v4],rfl,rfl,⟨[.string x.f2],[v3,v4],rfl,rfl,⟨[v3],[v4],rfl,⟨v3,rfl,g3⟩,⟨v4,rfl,g4⟩⟩⟩⟩⟩
theorem k25_mkF (W:World) (ok:Nat→Prop) (x:S25) {A3:Option Addr} {c3:Nat} (l3:x.f3.length≤c3) (g3:Kd.F Kd.string W ok A3 x.f3.length x.f3) {A4:Option Addr} {c4:Nat} (l4:x.f4.length≤c4) (g4:Kd.F k39 W ok A4 x.f4.length x.f4):Kd.FK k25 W ok x [.string x.f0,.string x.f1,.string x.f2,.slice A3 x.f3.length c3,.slice A4 x.f4.length c4]:=fun W2 hW=>k25_mk W2 x l3 (g3 W2 hW) l4 (g4 W2 hW)
def rd_T25 (xs:List S25) (i:Int):S25:=xs.getD i.toNat z25
theorem at_T25 {w:World} {A:Option Addr} {n:Nat} {xs:List S25} (h:Kd.C k25 w A n xs) (i:Int) (h0:0≤i) (h1:i<n):∃ ad A3 c3 A4 c4,A=some ad∧w.cell? (ad.add (i.toNat*5))=some (.string (rd_T25 xs i).f0)∧w.cell? ⟨(ad.add (i.toNat*5)).block,(ad.add (i.toNat*5)).off+1,none⟩=some (.string (rd_T25 xs i).f1)∧w.cell? ⟨(ad.add (i.toNat*5)).block,(ad.add (i.toNat*5)).off+2,none⟩=some (.string (rd_T25 xs i).f2)∧w.cell? ⟨(ad.add (i.toNat*5)).block,(ad.add (i.toNat*5)).off+3,none⟩=some (.slice A3 (rd_T25 xs i).f3.length c3)∧w.cell? ⟨(ad.add (i.toNat*5)).block,(ad.add (i.toNat*5)).off+4,none⟩=some (.slice A4 (rd_T25 xs i).f4.length c4)∧(rd_T25 xs i).f3.length≤c3∧Kd.string.C w A3 (rd_T25 xs i).f3.length (rd_T25 xs i).f3∧(rd_T25 xs i).f4.length≤c4∧k39.C w A4 (rd_T25 xs i).f4.length (rd_T25 xs i).f4:=by
 obtain⟨ad,c,e,_,hK,hc0⟩:=Kd.C_get h z25 i h0 h1;have hc:∀ j u,c[j]?=some u→w.cell? (ad.add (i.toNat*5+j))=some u:=hc0;obtain⟨A3,c3,A4,c4,rfl,l3,g3,l4,g4⟩:=k25_open hK;exact⟨ad,A3,c3,A4,c4,e,hc 0 _ rfl,by rw [← add_field _ _ 1 (by omega)];exact hc 1 _ rfl,by rw [← add_field _ _ 2 (by omega)];exact hc 2 _ rfl,by rw [← add_field _ _ 3 (by omega)];exact hc 3 _ rfl,by rw [← add_field _ _ 4 (by omega)];exact hc 4 _ rfl,l3,g3,l4,g4⟩
structure S45 where
 f0:ByteArray
 f1:ByteArray
def z45:S45:=⟨(⟨#[]⟩:ByteArray),(⟨#[]⟩:ByteArray)⟩
def k45:Kd S45:=Kd.iso (Kd.pair Kd.string Kd.string) (fun x:S45=>(x.f0,x.f1))
theorem k45_open {w:World} {x:S45} {cs:List Value} (h:k45.K w x cs):cs=[.string x.f0,.string x.f1]:=by
 obtain⟨_,_,rfl,rfl,rfl⟩:=h;exact rfl
theorem k45_mk (w:World) (x:S45)  :k45.K w x [.string x.f0,.string x.f1]:=⟨[.string x.f0],[.string x.f1],rfl,rfl,rfl⟩
def rd_T45 (xs:List S45) (i:Int):S45:=xs.getD i.toNat z45
theorem at_T45 {w:World} {A:Option Addr} {n:Nat} {xs:List S45} (h:Kd.C k45 w A n xs) (i:Int) (h0:0≤i) (h1:i<n):∃ ad,A=some ad∧w.cell? (ad.add (i.toNat*2))=some (.string (rd_T45 xs i).f0)∧w.cell? ⟨(ad.add (i.toNat*2)).block,(ad.add (i.toNat*2)).off+1,none⟩=some (.string (rd_T45 xs i).f1):=by
 obtain⟨ad,c,e,_,hK,hc0⟩:=Kd.C_get h z45 i h0 h1;have hc:∀ j u,c[j]?=some u→w.cell? (ad.add (i.toNat*2+j))=some u:=hc0;obtain rfl:=k45_open hK;exact⟨ad,e,hc 0 _ rfl,by rw [← add_field _ _ 1 (by omega)];exact hc 1 _ rfl⟩
theorem setCell_drewN_ (w:World) (n:Nat) (a:Addr) (v:Value):(w.drewN n).setCell a v=(w.setCell a v).drewN n:=rfl
theorem cell_put_twice_ (w:World) (a:Addr) (u v:Value) (h:(w.cell? a).isSome=true):((w.setCell a u).setCell a v).cell? a=some v:=
 World.cell?_setCell_same' _ _ _ (by rw [World.cell?_setCell_same' _ _ _ h];rfl)
theorem sz1_ (a:UInt8):(⟨#[a]⟩:ByteArray).size=1:=rfl
theorem sz2_ (a b:UInt8):(⟨#[a,b]⟩:ByteArray).size=2:=rfl
theorem sz3_ (a b c:UInt8):(⟨#[a,b,c]⟩:ByteArray).size=3:=rfl
theorem bytesLess_flip_ (a b:List UInt8):(!(Op.bytesLess a b||a==b))=Op.bytesLess b a:=by
 rw [bytesLess_eq,bytesLess_eq];by_cases h:a<b
 ·have:¬ b<a:=fun h'=>absurd (List.lt_trans h h') (List.lt_irrefl a)
  simp [h,this]
 ·by_cases e:a=b
  ·subst e;simp [List.lt_irrefl]
  ·have:b<a:=Classical.byContradiction fun h1=>e (List.le_antisymm (List.not_lt.mp h1) (List.not_lt.mp h))
   simp [h,e,this]
theorem gtr_less_ (t:TypeId) (a b:ByteArray):binOp .gtr t (.string a) (.string b)=pure (.bool (Op.bytesLess b.toList a.toList)):=by
 rw [← bytesLess_flip_];simp [binOp,Op.stringOp]
end Go.Proofs.YtphjhbppjakocaaGreatDoor.PTag
namespace Go.Proofs.YtphjhbppjakocaaGreatDoor.PTag
open Go.RowKit Go.Proofs.YtphjhbppjakocaaGreatDoorW.PrintWords Go.Proofs.YtphjhbppjakocaaGreatDoorW.PrintLast Go.Proofs.YtphjhbppjakocaaGreatDoorW.PrintMore
attribute [local go_sem] max2_int min2_int max_two min_two max_three min_three max_four min_four
attribute [local go_sem] setCell_drewN_ cell_put_twice_ gtr_less_
def tAt (g:UInt8→UInt8) (l:List UInt8) (i j:Nat):UInt8:=if j<i then g (l.getD j 0) else l.getD j 0
theorem tAt_old {g:UInt8→UInt8} {l:List UInt8} {i j:Nat} (h:i≤j):tAt g l i j=l.getD j 0:=if_neg (by omega)
theorem tAt_next {g:UInt8→UInt8} {l:List UInt8} {i j:Nat} (h:j≠i):tAt g l (i+1) j=tAt g l i j:=by
 unfold tAt;by_cases h1:j<i
 ·rw [if_pos h1,if_pos (by omega)]
 ·rw [if_neg h1,if_neg (by omega)]
theorem tAt_same {g:UInt8→UInt8} {l:List UInt8} {i:Nat} (h:g (l.getD i 0)=l.getD i 0) (j:Nat):tAt g l (i+1) j=tAt g l i j:=by
 by_cases hj:j=i
 ·subst hj
  unfold tAt;rw [if_pos (by omega),if_neg (by omega),h]
 ·exact tAt_next hj
theorem tAt_here {g:UInt8→UInt8} {l:List UInt8} {i:Nat}:tAt g l (i+1) i=g (l.getD i 0):=if_pos (by omega)
def BytesAt (w:World) (b n:Nat) (f:Nat→UInt8):Prop:=∀ j,j<n→w.cell? ⟨b,j,none⟩=some (.int .u8 ((f j).toNat:Int))∧w.frozen? ⟨b,j,none⟩=false
theorem BytesAt.congr {w:World} {b n:Nat} {f f':Nat→UInt8} (h:BytesAt w b n f) (he:∀ j,f' j=f j):BytesAt w b n f':=fun j hj=>by rw [he];exact h j hj
theorem BytesAt.set {w:World} {b n i:Nat} {f f':Nat→UInt8} {v:Int} (h:BytesAt w b n f) (he:∀ j,j≠i→f' j=f j) (hv:v=((f' i).toNat:Int)):BytesAt (w.setCell ⟨b,i,none⟩ (.int .u8 v)) b n f':=fun j hj=>by
 subst hv;refine⟨?_,by rw [World.frozen?_setCell];exact(h j hj).2⟩
 by_cases e:j=i
 ·subst e
  exact World.cell?_setCell_same _ _ _ (h j hj).1
 ·rw [World.cell?_setCell_other _ _ _ _ (fun hh=>e (by injection hh with h1 h2;exact h2.symm)),he j e]
  exact(h j hj).1
theorem BytesAt.conv (w:World) (e:TypeId) (s:ByteArray):BytesAt (Lib.bytesWorld w e s) w.heap.size s.size (fun j=>s.data.toList.getD j 0):=fun j hj=>by
 refine⟨Lib.bytesWorld_cell w e s j hj,?_⟩;unfold World.frozen?;rw [Lib.bytesWorld_at_new];have:s.size≤(Lib.bytesCells w e s).size:=by simp [Lib.bytesCells]
 simp;omega
theorem BytesAt.back {P:Program} {w:World} {b n cap:Nat} {f:Nat→UInt8} (h:BytesAt w b n f) {src dst e:TypeId} (hs:P.underlying src=some (.slice e)) (he:P.underlying e=some (.int .u8)) (hd:P.underlying dst=some .string) {l:List UInt8} (hl:l.length=n) (hf:∀ j,(hj:j<l.length)→f j=l[j]):
 (convert src dst (.slice (some ⟨b,0,none⟩) n cap)).run P w=.ok (.string ⟨l.toArray⟩) w:=by
 subst hl;refine run_convert_bytes_back w src dst e ⟨b,0,none⟩ cap l hs he hd (fun j hj=>?_);have:=(h j hj).1;rw [hf j hj] at this;have e:(⟨b,0,none⟩:Addr).add j=⟨b,j,none⟩:=by
  unfold Addr.add;by_cases hj0:j=0
  ·subst hj0;simp
  ·simp [hj0]
 rw [e];exact this
theorem tAt_done {P:Program} {w:World} {b cap:Nat} {g:UInt8→UInt8} {s:ByteArray} {src dst e:TypeId} (hs:P.underlying src=some (.slice e)) (he:P.underlying e=some (.int .u8)) (hd:P.underlying dst=some .string) (h:BytesAt w b s.size (tAt g s.data.toList s.size)):
 (convert src dst (.slice (some ⟨b,0,none⟩) s.size cap)).run P w=.ok (.string ⟨(s.data.toList.map g).toArray⟩) w:=by
 refine h.back hs he hd (by simp) (fun j hj=>?_)
 simp only [List.length_map] at hj;simp only [List.getElem_map];unfold tAt;rw [if_pos (by simpa using hj),List.getD_eq_getElem?_getD,List.getElem?_eq_getElem hj];rfl
theorem plainAddr_ {w:World} {ad:Addr} {s:ByteArray} (h:w.cell? ad=some (.string s)):∃ b o,ad=⟨b,o,none⟩∧b<w.heap.size:=by
 have hsp:ad.spot=none:=by
  cases hs:ad.spot with
  |none=>rfl
  |some z=>
   exfalso;unfold World.cell? at h;rw [hs] at h;split at h <;> simp at h
 have hlt:=World.block_lt_of_cell? w _ h;obtain⟨b,o,sp⟩:=ad;obtain rfl:sp=none:=hsp;exact⟨b,o,rfl,hlt⟩
theorem add_plain_ (b o j:Nat):(⟨b,o,none⟩:Addr).add j=⟨b,o+j,none⟩:=by
 unfold Addr.add;by_cases hz:j=0 <;> simp [hz]
theorem strings_at_ {w:World} {A:Option Addr} {l:List ByteArray} (hr:Kd.C Kd.string w A l.length l) (h0:0<l.length):∃ b o,A=some ⟨b,o,none⟩∧b<w.heap.size∧∀ j,j<l.length→w.cell? ⟨b,o+j,none⟩=some (.string (l.getD j ByteArray.empty)):=by
 have hR:=Kd.reads_of_C (enc:=Value.string) (d:=ByteArray.empty) (h1:=fun _=>rfl) hr;obtain⟨ad,rfl,hc⟩:=hR.2.2 h0;have hc0:=hc 0 h0;have e0:ad.add 0=ad:=rfl;rw [e0] at hc0;obtain⟨b,o,rfl,hlt⟩:=plainAddr_ hc0;refine⟨b,o,rfl,hlt,fun j hj=>?_⟩;have:=hc j hj
 rwa [add_plain_] at this
instance:Inhabited S39:=⟨z39⟩
def encKey_ (x:S39):List Value:=[.string x.f0,.string x.f1]
def flatKeys_ (l:List S39):List Value:=l.flatMap encKey_
theorem flatKeys_len (l:List S39):(flatKeys_ l).length=l.length*2:=by
 induction l with
 |nil=>rfl
 |cons x l ih=>
  have:flatKeys_ (x :: l)=.string x.f0 :: .string x.f1 :: flatKeys_ l:=rfl;rw [this,List.length_cons,List.length_cons,ih,List.length_cons];omega
theorem flatKeys_get:∀ (l:List S39) (j:Nat) (p:S39),l[j]?=some p→(flatKeys_ l)[j*2]?=some (.string p.f0)∧(flatKeys_ l)[j*2+1]?=some (.string p.f1)
 |[],j,p,h=>by simp at h
 |x :: l,0,p,h=>by
  obtain rfl:x=p:=by simpa using h
  exact⟨rfl,rfl⟩
 |x :: l,j+1,p,h=>by
  have ih:=flatKeys_get l j p (by simpa using h)
  have e:flatKeys_ (x :: l)=.string x.f0 :: .string x.f1 :: flatKeys_ l:=rfl;rw [e,show(j+1)*2=j*2+1+1 by omega,show j*2+1+1+1=(j*2+1)+1+1 by omega]
  simp only [List.getElem?_cons_succ];exact ih
theorem flatKeys_at (l:List S39) (j:Nat) (u:Value) (h:(flatKeys_ l)[j]?=some u):∃ q i p,j=q*2+i∧l[q]?=some p∧(encKey_ p)[i]?=some u:=by
 have hj:=(List.getElem?_eq_some_iff.1 h).1;rw [flatKeys_len] at hj;have hq:j / 2<l.length:=by omega
 have hp:l[j / 2]?=some l[j / 2]:=List.getElem?_eq_getElem hq;obtain⟨h0,h1⟩:=flatKeys_get l (j / 2) _ hp;have hm:j % 2=0∨j % 2=1:=by omega
 rcases hm with hm|hm
 ·refine ⟨j / 2,0,_,by omega,hp,?_⟩
  rw [show j / 2*2=j by omega] at h0
  rw [h0] at h;rw [← h];rfl
 ·refine ⟨j / 2,1,_,by omega,hp,?_⟩
  rw [show j / 2*2+1=j by omega] at h1
  rw [h1] at h;rw [← h];rfl
theorem flatKeys_piece (l:List S39) (j:Nat) (p:S39) (h:l[j]?=some p):((flatKeys_ l).drop (j*2)).take 2=encKey_ p:=by
 obtain⟨h0,h1⟩:=flatKeys_get l j p h;have l0:=(List.getElem?_eq_some_iff.1 h0).1;have l1:=(List.getElem?_eq_some_iff.1 h1).1;have e0:=(List.getElem?_eq_some_iff.1 h0).2;have e1:=(List.getElem?_eq_some_iff.1 h1).2;rw [List.drop_eq_getElem_cons l0,List.drop_eq_getElem_cons l1,e0,e1];rfl
theorem keys_at_ {w:World} {A:Option Addr} {l:List S39} (hr:Kd.C k39 w A l.length l) (h0:0<l.length):∃ b o,A=some ⟨b,o,none⟩∧b<w.heap.size∧∀ j u,(flatKeys_ l)[j]?=some u→w.cell? ⟨b,o+j,none⟩=some u:=by
 obtain⟨ad,rfl,hc⟩:=hr.2.2 h0;have hget:∀ j p,l[j]?=some p→∀ i u,(encKey_ p)[i]?=some u→w.cell? (ad.add (j*2+i))=some u:=fun j p hp i u hu=>by
  obtain⟨c,_,hk,hcell⟩:=hc j p hp;obtain rfl:=k39_open hk;exact hcell i u hu
 have hfirst:=hget 0 _ (List.getElem?_eq_getElem h0) 0 _ rfl;have e0:ad.add (0*2+0)=ad:=rfl;rw [e0] at hfirst;obtain⟨b,o,rfl,hlt⟩:=plainAddr_ hfirst;refine⟨b,o,rfl,hlt,fun j u hu=>?_⟩;obtain⟨q,i,p,rfl,hp,hi⟩:=flatKeys_at l j u hu;have:=hget q p hp i u hi
 rwa [add_plain_] at this
theorem keys_own_ {w:World} {base:Nat} {v:Value} {l:List S39} {ok:Nat→Prop} (ho:w.ownsRow base 39 2 v l.length (flatKeys_ l)) (hok:∀ k,v.ownBlock=some k→ok k):Kd.R k39 39 w base ok v l:=
 ⟨hok,flatKeys_ l,ho,flatKeys_len l,fun j p hp=>by rw [show (k39).sz=2 from rfl,flatKeys_piece l j p hp];exact⟨[.string p.f0],[.string p.f1],rfl,rfl,rfl⟩⟩
theorem keys_of_R_ {w:World} {base:Nat} {v:Value} {l:List S39} {ok:Nat→Prop} (h:Kd.R k39 39 w base ok v l):w.ownsRow base 39 2 v l.length (flatKeys_ l):=by
 obtain⟨_,inner,ho,hl,hr⟩:=h;have e:inner=flatKeys_ l:=by
  have hl':inner.length=l.length*2:=hl;apply List.ext_getElem?;intro j;by_cases hj:j<l.length*2
  ·have hq:j / 2<l.length:=by omega
   have hp:l[j / 2]?=some l[j / 2]:=List.getElem?_eq_getElem hq;have h2:=hr _ _ hp;have hsz:(k39).sz=2:=rfl;rw [hsz] at h2;have h3:=k39_openM h2;have h4:=flatKeys_piece l _ _ hp;have h5:((inner.drop (j / 2*2)).take 2)[j % 2]?=(((flatKeys_ l).drop (j / 2*2)).take 2)[j % 2]?:=by rw [h3,h4];rfl
   rw [List.getElem?_take_of_lt (by omega),List.getElem?_take_of_lt (by omega),List.getElem?_drop,List.getElem?_drop,show j / 2*2+j % 2=j by omega] at h5
   exact h5
  ·rw [List.getElem?_eq_none (by omega),List.getElem?_eq_none (by rw [flatKeys_len];omega)]
 rw [← e];exact ho
def tag_lower.g (b:UInt8):UInt8:=if 65≤b.toNat∧b.toNat≤90 then UInt8.ofNat (b.toNat+32) else b
def tag_lower.f (a0:ByteArray):Option ByteArray:=if a0.size<9223372036854775807 then some ⟨(a0.data.toList.map tag_lower.g).toArray⟩ else none
set_option maxHeartbeats 4000000 in
set_option maxRecDepth 100000 in
theorem tag_lower.calls (a0 r:ByteArray) (w:World) (h:tag_lower.f a0=some r):
 Calls Tryz.prog 44 #[.string a0] w fun e w'=>e=.returned (.string r)∧Below w.heap.size w w':=by
 unfold tag_lower.f at h;by_cases hs:a0.size<9223372036854775807
 ·rw [if_pos hs] at h
  obtain rfl:=Option.some.inj h;clear h;have hcv:∀ W:World,(convert 9 82 (.string a0)).run Tryz.prog W=.ok (.slice (some ⟨W.heap.size,0,none⟩) a0.size (grownCap W a0.size 0 5)) (Lib.bytesWorld W 5 a0):=fun W=>Lib.run_convert_string_bytes W 9 82 5 a0 Tryz.underlying9 Tryz.underlying82 Tryz.underlying5;have hB0:Below w.heap.size w (Lib.bytesWorld w 5 a0):=bytes_below (Below.refl _ _) (Nat.le_refl _) 5 a0;have hC0:BytesAt (Lib.bytesWorld w 5 a0) w.heap.size a0.size (tAt tag_lower.g a0.data.toList 0):=(BytesAt.conv w 5 a0).congr (fun j=>tAt_old (Nat.zero_le _))
  go_enter Tryz.func44,Tryz.ntmps44
  go_wp2
  go_loopg [10] (a0.size+1) (fun kq v10 w'=>∃ i:Nat,v10=.int .i64 (i:Int)∧Aside0 (kq+i=a0.size+1)∧Aside0 (i≤a0.size)∧Aside0 (BytesAt w' w.heap.size a0.size (tAt tag_lower.g a0.data.toList i))∧Aside0 (Below w.heap.size w w'))
  case atStart=>exact ⟨0,rfl,⟨rfl⟩,⟨Nat.zero_le _⟩,⟨hC0⟩,⟨hB0⟩⟩
  case round=>
   obtain⟨i,rfl,HK,HI,HC,HB⟩:=hrel;cases gk with
   |zero=>exact absurd HK.out (by have:=HI.out;omega)
   | succ k1=>
    by_cases c1:i<a0.size
    ·have t1:decide ((i:Int)<(a0.size:Int))=true:=decide_eq_true (by omega)
     obtain⟨x,hx⟩:∃ x,x=a0.data.toList.getD i 0:=⟨_,rfl⟩;have hcell:=(HC.out i c1).1;have hfz:=(HC.out i c1).2;rw [tAt_old (Nat.le_refl _),← hx] at hcell;have HX:=ak_ hx;clear hx;have hw1:IntKind.i64.wrap ((i:Int)+1)=(i:Int)+1:=by simp [IntKind.wrap,IntKind.bits,IntKind.signed];omega
     have hxl:=x.toNat_lt;have HXL:=ak_ hxl;clear hxl;by_cases c2:65≤x.toNat∧x.toNat≤90
     ·have t2:decide ((65:Int)≤(x.toNat:Int))=true:=decide_eq_true (by omega)
      have t3:decide ((x.toNat:Int)≤90)=true:=decide_eq_true (by omega)
      have C2:=ak_ c2;clear c2
      go_wp2
      go_roundg k1
      case measure=>omega
      case rel=>exact ⟨i+1,by go_num,⟨by have:=HK.out;omega⟩,⟨by omega⟩,⟨HC.out.set (fun j hj=>tAt_next hj) (by rw [tAt_here,← HX.out];unfold tag_lower.g;rw [if_pos C2.out,UInt8.toNat_ofNat'];have:=C2.out;first|omega|(simp [IntKind.wrap,IntKind.bits,IntKind.signed];omega))⟩,⟨HB.out.setCell (Nat.le_refl _) _⟩⟩
     ·have hlow:tag_lower.g x=x:=if_neg c2
      have HL:=ak_ hlow;clear hlow;by_cases c3:65≤x.toNat
      ·have t2:decide ((65:Int)≤(x.toNat:Int))=true:=decide_eq_true (by omega)
       have t3:decide ((x.toNat:Int)≤90)=false:=decide_eq_false (by omega)
       clear c2 c3
       go_wp2
       go_roundg k1
       case measure=>omega
       case rel=>exact ⟨i+1,by go_num,⟨by have:=HK.out;omega⟩,⟨by omega⟩,⟨HC.out.congr (fun j=>tAt_same (by rw [← HX.out];exact HL.out) j)⟩,⟨HB.out⟩⟩
      ·have t2:decide ((65:Int)≤(x.toNat:Int))=false:=decide_eq_false (by omega)
       clear c2 c3
       go_wp2
       go_roundg k1
       case measure=>omega
       case rel=>exact ⟨i+1,by go_num,⟨by have:=HK.out;omega⟩,⟨by omega⟩,⟨HC.out.congr (fun j=>tAt_same (by rw [← HX.out];exact HL.out) j)⟩,⟨HB.out⟩⟩
    ·have t1:decide ((i:Int)<(a0.size:Int))=false:=decide_eq_false (by omega)
     have hi:i=a0.size:=by have:=HI.out;omega
     subst hi;have hbk:=tAt_done (P:=Tryz.prog) (cap:=grownCap w a0.size 0 5) Tryz.underlying82 Tryz.underlying5 Tryz.underlying9 HC.out
     go_wp2
     go_ret
     exact⟨rfl,HB.out⟩
 ·rw [if_neg hs] at h;cases h
theorem eqA39 (d:Nat) (w:World) (x0 y0:ByteArray) (x1 y1:ByteArray):
 (Op.equalIn (d+2) 39 (.agg #[.string x0,.string x1]) (.agg #[.string y0,.string y1])).run Tryz.prog w=.ok (x0.toList==y0.toList&&(x1.toList==y1.toList)) w:=by
 refine eqA_of Tryz.underlying39 (by kernel_rfl) ?_
 refine eqf_cons (by rfl) (by go_simp;rfl) (by go_simp;rfl) (by go_simp) ?_
 exact eqf_last (by rfl) (by go_simp;rfl) (by go_simp;rfl) (by go_simp)
mutual
def tag_signs.l0:Nat→ByteArray→Int→Int→Int→Int→Option (Bool)
 |0,_,_,_,_,_=>none
 |k+1,x0,x1,x2,x10,x11=>if x11<x10 then(if 0≤x11 then(if x11<(x0.size:Int) then(if (Go.bits .or .u8 (bt x0 x11) 32)<97 then(if (bt x0 x11)<48 then(tag_signs.j1 k x0 x1 x2 x10 x11 true) else(tag_signs.j1 k x0 x1 x2 x10 x11 (decide ((bt x0 x11)>57)))) else(if (Go.bits .or .u8 (bt x0 x11) 32)>122 then(if (bt x0 x11)<48 then(tag_signs.j1 k x0 x1 x2 x10 x11 true) else(tag_signs.j1 k x0 x1 x2 x10 x11 (decide ((bt x0 x11)>57)))) else(tag_signs.j1 k x0 x1 x2 x10 x11 false))) else(none)) else(none)) else(if (x0.size:Int)≥x1 then(some (decide ((x0.size:Int)≤x2))) else(some false))
def tag_signs.j1:Nat→ByteArray→Int→Int→Int→Int→Bool→Option (Bool)
 |0,_,_,_,_,_,_=>none
 |k+1,x0,x1,x2,x10,x11,x35=>if x35=true then(some false) else(tag_signs.l0 k x0 x1 x2 x10 (wrap64 (x11+1)))
end
def tag_signs.f (k:Nat) (a0:ByteArray) (a1:Int) (a2:Int):Option (Bool):=tag_signs.l0 k a0 a1 a2 (a0.size:Int) 0
set_option maxHeartbeats 8000000 in
set_option maxRecDepth 100000 in
theorem tag_signs.calls (k:Nat) (a0:ByteArray) (a1:Int) (a2:Int) (r:Bool) (w:World) (h:tag_signs.f k a0 a1 a2=some r):
 Calls Tryz.prog 59 #[.string a0,.int .i64 a1,.int .i64 a2] w fun e w'=>e=.returned (.bool r)∧Drawn0 w w':=by
 have H:(tag_signs.l0 k a0 a1 a2 (a0.size:Int) 0)=some r:=h;clear h;have H':=ak_ H;clear H
 go_enter Tryz.func59,Tryz.ntmps59
 go_wp2
 go_loopg [11] k (fun kq v11 w'=>∃ (aA:Int),v11=.int .i64 aA∧Aside0 (tag_signs.l0 kq a0 a1 a2 (a0.size:Int) aA=some r)∧Aside0 (kq≤k)∧Drawn0 w w')
 case atStart=>exact ⟨(0),(by first|rfl|(simp;done)|(simp [*];done)),H',⟨Nat.le_refl _⟩,by repeat (first|exact Drawn0.refl _|apply Drawn0.step)⟩
 case round=>
  clear H';obtain⟨aA,rfl,HA,HK1,⟨m1,rfl⟩⟩:=hrel;cases gk with
  |zero=>exact absurd HA.out (by simp [tag_signs.l0])
  | succ k1=>
   have H:=HA.out;clear HA;simp only [tag_signs.l0] at H;by_cases c4:aA<(a0.size:Int)
   ·rw [if_pos c4] at H
    have aF:decide (aA<(a0.size:Int))=true:=decide_eq_true c4;clear c4;by_cases c5:0≤aA
    ·rw [if_pos c5] at H
     have aH:decide (0≤aA)=true:=decide_eq_true c5;clear c5;by_cases c6:aA<(a0.size:Int)
     ·rw [if_pos c6] at H
      have aG:decide (aA<(a0.size:Int))=true:=decide_eq_true c6;clear c6;have HC8:=ak_ H;clear H;have p7:0≤(aA:Int):=of_decide_eq_true (by first|(with_reducible assumption)|assumption)
      have q7:aA<(a0.size:Int):=of_decide_eq_true (by first|(with_reducible assumption)|assumption)
      have hx7:=bt_at a0 aA;replace p7:=eq_true p7;replace q7:=eq_true q7
      go_upto_region 5 with (fail)
      go_cut [35] (fun v35 wc=>∃ (kq:Nat) (aE:Bool),v35=.bool aE∧Aside0 (tag_signs.j1 kq a0 a1 a2 (a0.size:Int) aA aE=some r)∧Aside0 (kq≤k1)∧Drawn0 w wc)
      case first=>
       have H:=HC8.out;clear HC8;by_cases c9:(Go.bits .or .u8 (bt a0 aA) 32)<97
       ·rw [if_pos c9] at H
        have aC:decide ((Go.bits .or .u8 (bt a0 aA) 32)<97)=true:=decide_eq_true c9;clear c9
        (first|rw [aC]|rw [aI]|rw [aJ]|(simp only [i64_w,i32_w];rw [aC])|skip)
        (try simp only [Bool.not_true,Bool.not_false])
        by_cases c11:(bt a0 aA)<48
        ·rw [if_pos c11] at H
         have aK:decide ((bt a0 aA)<48)=true:=decide_eq_true c11;clear c11;have H':=ak_ H;clear H;have p10:0≤(aA:Int):=of_decide_eq_true (by first|(with_reducible assumption)|assumption)
         have q10:aA<(a0.size:Int):=of_decide_eq_true (by first|(with_reducible assumption)|assumption)
         have aL:=bt_at a0 aA;replace p10:=eq_true p10;replace q10:=eq_true q10
         go_wp2
         go_meet
         case rel=>exact ⟨_,(true),(by first|rfl|(simp;done)|(simp [*];done)),H',⟨by have:=HK1.out;first|omega|exact Nat.le_refl _⟩,by repeat (first|exact Drawn0.refl _|apply Drawn0.step)⟩
        ·rw [if_neg c11] at H
         have aK:decide ((bt a0 aA)<48)=false:=decide_eq_false c11;clear c11;have H':=ak_ H;clear H;have p10:0≤(aA:Int):=of_decide_eq_true (by first|(with_reducible assumption)|assumption)
         have q10:aA<(a0.size:Int):=of_decide_eq_true (by first|(with_reducible assumption)|assumption)
         have aL:=bt_at a0 aA;replace p10:=eq_true p10;replace q10:=eq_true q10;have p12:0≤(aA:Int):=of_decide_eq_true (by first|(with_reducible assumption)|assumption)
         have q12:aA<(a0.size:Int):=of_decide_eq_true (by first|(with_reducible assumption)|assumption)
         have hx12:=bt_at a0 aA;replace p12:=eq_true p12;replace q12:=eq_true q12
         go_wp2
         go_meet
         case rel=>exact ⟨_,(decide ((bt a0 aA)>57)),(by first|rfl|(simp;done)|(simp [*];done)),H',⟨by have:=HK1.out;first|omega|exact Nat.le_refl _⟩,by repeat (first|exact Drawn0.refl _|apply Drawn0.step)⟩
       ·rw [if_neg c9] at H
        have aC:decide ((Go.bits .or .u8 (bt a0 aA) 32)<97)=false:=decide_eq_false c9;clear c9
        (first|rw [aC]|rw [aI]|rw [aJ]|(simp only [i64_w,i32_w];rw [aC])|skip)
        (try simp only [Bool.not_true,Bool.not_false])
        by_cases c13:(Go.bits .or .u8 (bt a0 aA) 32)>122
        ·rw [if_pos c13] at H
         have aM:decide (122<(Go.bits .or .u8 (bt a0 aA) 32))=true:=decide_eq_true c13;clear c13;by_cases c15:(bt a0 aA)<48
         ·rw [if_pos c15] at H
          have aN:decide ((bt a0 aA)<48)=true:=decide_eq_true c15;clear c15;have H':=ak_ H;clear H;have p14:0≤(aA:Int):=of_decide_eq_true (by first|(with_reducible assumption)|assumption)
          have q14:aA<(a0.size:Int):=of_decide_eq_true (by first|(with_reducible assumption)|assumption)
          have aO:=bt_at a0 aA;replace p14:=eq_true p14;replace q14:=eq_true q14
          go_wp2
          go_meet
          case rel=>exact ⟨_,(true),(by first|rfl|(simp;done)|(simp [*];done)),H',⟨by have:=HK1.out;first|omega|exact Nat.le_refl _⟩,by repeat (first|exact Drawn0.refl _|apply Drawn0.step)⟩
         ·rw [if_neg c15] at H
          have aN:decide ((bt a0 aA)<48)=false:=decide_eq_false c15;clear c15;have H':=ak_ H;clear H;have p14:0≤(aA:Int):=of_decide_eq_true (by first|(with_reducible assumption)|assumption)
          have q14:aA<(a0.size:Int):=of_decide_eq_true (by first|(with_reducible assumption)|assumption)
          have aO:=bt_at a0 aA;replace p14:=eq_true p14;replace q14:=eq_true q14;have p16:0≤(aA:Int):=of_decide_eq_true (by first|(with_reducible assumption)|assumption)
          have q16:aA<(a0.size:Int):=of_decide_eq_true (by first|(with_reducible assumption)|assumption)
          have hx16:=bt_at a0 aA;replace p16:=eq_true p16;replace q16:=eq_true q16
          go_wp2
          go_meet
          case rel=>exact ⟨_,(decide ((bt a0 aA)>57)),(by first|rfl|(simp;done)|(simp [*];done)),H',⟨by have:=HK1.out;first|omega|exact Nat.le_refl _⟩,by repeat (first|exact Drawn0.refl _|apply Drawn0.step)⟩
        ·rw [if_neg c13] at H
         have aM:decide (122<(Go.bits .or .u8 (bt a0 aA) 32))=false:=decide_eq_false c13;clear c13;have H':=ak_ H;clear H
         go_wp2
         go_meet
         case rel=>exact ⟨_,(false),(by first|rfl|(simp;done)|(simp [*];done)),H',⟨by have:=HK1.out;first|omega|exact Nat.le_refl _⟩,by repeat (first|exact Drawn0.refl _|apply Drawn0.step)⟩
      case rest=>
       clear HC8;clear aF aH aG p7 q7 hx7;obtain⟨kq,aE,rfl,HA,HJ7,⟨mc7,rfl⟩⟩:=hcut;cases kq with
       |zero=>exact absurd HA.out (by simp [tag_signs.j1])
       | succ kj7=>
        have H:=HA.out;clear HA;simp only [tag_signs.j1] at H;by_cases c17:aE=true
        ·subst c17
         have H1:(some false)=some r:=by rw [if_pos rfl] at H;exact H
         clear H;have H:=H1;clear H1;obtain rfl:=Option.some.inj H
         go_wp2
         go_ret
         exact⟨by first|rfl|(simp;done)|(simp [*];done),by repeat (first|exact Drawn0.refl _|apply Drawn0.step)⟩
        ·replace c17:=Bool.eq_false_iff.mpr c17
         subst c17;have H1:(tag_signs.l0 kj7 a0 a1 a2 (a0.size:Int) (wrap64 (aA+1)))=some r:=by rw [if_neg (show ¬ (false=true) by decide)] at H;exact H
         clear H;have H:=H1;clear H1;have H':=ak_ H;clear H
         go_wp2
         go_roundg kj7
         case measure=>have:=HK1.out;have:=HJ7.out;omega
         case rel=>exact ⟨(wrap64 (aA+1)),(by first|rfl|(simp;done)|(simp [*];done)),H',⟨by have:=HK1.out;have:=HJ7.out;omega⟩,by repeat (first|exact Drawn0.refl _|apply Drawn0.step)⟩
     ·rw [if_neg c6] at H
      exact absurd H (by simp)
    ·rw [if_neg c5] at H
     exact absurd H (by simp)
   ·rw [if_neg c4] at H
    have aF:decide (aA<(a0.size:Int))=false:=decide_eq_false c4;clear c4;by_cases c18:(a0.size:Int)≥a1
    ·rw [if_pos c18] at H
     have aP:decide (a1≤(a0.size:Int))=true:=decide_eq_true c18;clear c18;obtain rfl:=Option.some.inj H
     go_wp2
     go_ret
     exact⟨by first|rfl|(simp;done)|(simp [*];done),by repeat (first|exact Drawn0.refl _|apply Drawn0.step)⟩
    ·rw [if_neg c18] at H
     have aP:decide (a1≤(a0.size:Int))=false:=decide_eq_false c18;clear c18;obtain rfl:=Option.some.inj H
     go_wp2
     go_ret
     exact⟨by first|rfl|(simp;done)|(simp [*];done),by repeat (first|exact Drawn0.refl _|apply Drawn0.step)⟩
def tag_variant.f (k:Nat) (a0:ByteArray):Option (Bool):=(tag_signs.f k a0 5 8).bind fun aD=>(if aD=true then(some true) else((tag_signs.f k a0 4 4).bind fun aB=>(if aB=true then(if 0<(a0.size:Int) then(if (bt a0 0)≥48 then(some (decide ((bt a0 0)≤57))) else(some false)) else(none)) else(some false))))
set_option maxHeartbeats 8000000 in
set_option maxRecDepth 100000 in
theorem tag_variant.calls (k:Nat) (a0:ByteArray) (r:Bool) (w:World) (h:tag_variant.f k a0=some r):
 Calls Tryz.prog 57 #[.string a0] w fun e w'=>e=.returned (.bool r)∧Drawn0 w w':=by
 have H:((tag_signs.f k a0 5 8).bind fun aD=>(if aD=true then(some true) else((tag_signs.f k a0 4 4).bind fun aB=>(if aB=true then(if 0<(a0.size:Int) then(if (bt a0 0)≥48 then(some (decide ((bt a0 0)≤57))) else(some false)) else(none)) else(some false)))))=some r:=h;clear h;replace H:=Option.bind_eq_some_iff.mp H;obtain⟨aD,A20,H⟩:=H;try dsimp only at H
 have A2:=ak_ A20;clear A20;by_cases c3:aD=true
 ·subst c3
  have H1:(some true)=some r:=by rw [if_pos rfl] at H;exact H
  clear H;have H:=H1;clear H1;obtain rfl:=Option.some.inj H
  go_enter Tryz.func57,Tryz.ntmps57
  go_wp2_with (first|((with_reducible refine gate_callee (f:=59) rfl ?_);refine gb_ (some 4) Tryz.func59 #[.string a0,.int .i64 5,.int .i64 8] ?_;(with_reducible refine(tag_signs.calls k a0 5 8 true _ A2.out).mono ?_);rintro e w' ⟨rfl,⟨nd,rfl⟩⟩;refine⟨_,rfl,?_⟩))
  go_ret
  exact⟨by first|rfl|(simp;done)|(simp [*];done),by repeat (first|exact Drawn0.refl _|apply Drawn0.step)⟩
 ·replace c3:=Bool.eq_false_iff.mpr c3
  subst c3;have H1:((tag_signs.f k a0 4 4).bind fun aB=>(if aB=true then(if 0<(a0.size:Int) then(if (bt a0 0)≥48 then(some (decide ((bt a0 0)≤57))) else(some false)) else(none)) else(some false)))=some r:=by rw [if_neg (show ¬ (false=true) by decide)] at H;exact H
  clear H;have H:=H1;clear H1;replace H:=Option.bind_eq_some_iff.mp H;obtain⟨aB,A40,H⟩:=H;try dsimp only at H
  have A4:=ak_ A40;clear A40;by_cases c5:aB=true
  ·subst c5
   have H1:(if 0<(a0.size:Int) then(if (bt a0 0)≥48 then(some (decide ((bt a0 0)≤57))) else(some false)) else(none))=some r:=by rw [if_pos rfl] at H;exact H
   clear H;have H:=H1;clear H1;by_cases c6:0<(a0.size:Int)
   ·rw [if_pos c6] at H
    have aG:decide (0<(a0.size:Int))=true:=decide_eq_true c6;have c6b1:decide (0<a0.size)=true:=decide_eq_true (by omega)
    clear c6;by_cases c8:(bt a0 0)≥48
    ·rw [if_pos c8] at H
     have aQ:decide (48≤(bt a0 0))=true:=decide_eq_true c8;clear c8;obtain rfl:=Option.some.inj H
     go_enter Tryz.func57,Tryz.ntmps57
     go_wp2_with (first|((with_reducible refine gate_callee (f:=59) rfl ?_);refine gb_ (some 4) Tryz.func59 #[.string a0,.int .i64 5,.int .i64 8] ?_;(with_reducible refine(tag_signs.calls k a0 5 8 false _ A2.out).mono ?_);rintro e w' ⟨rfl,⟨nd,rfl⟩⟩;refine⟨_,rfl,?_⟩)|(go_at_call 59;(with_reducible refine(tag_signs.calls k a0 4 4 true _ A4.out).mono ?_);rintro e w' ⟨rfl,⟨nd,rfl⟩⟩;have p7:0≤(0:Int):=(by omega);have q7:0<a0.size:=(by have:(0:Int)<(a0.size:Int):=of_decide_eq_true (by first|(with_reducible assumption)|assumption);omega);have hx7:∀ h:0<a0.size,((a0[0]'h).toNat:Int)=bt a0 0:=bt_at a0 0;clear p7;have qi7:(0<(a0.size:Int))=True:=eq_true (of_decide_eq_true (by first|(with_reducible assumption)|assumption));replace q7:=eq_true q7;have p9:0≤(0:Int):=(by omega);have q9:0<a0.size:=(by have:(0:Int)<(a0.size:Int):=of_decide_eq_true (by first|(with_reducible assumption)|assumption);omega);have hx9:∀ h:0<a0.size,((a0[0]'h).toNat:Int)=bt a0 0:=bt_at a0 0;clear p9;have qi9:(0<(a0.size:Int))=True:=eq_true (of_decide_eq_true (by first|(with_reducible assumption)|assumption));replace q9:=eq_true q9))
     go_ret
     exact⟨by first|rfl|(simp;done)|(simp [*];done),by repeat (first|exact Drawn0.refl _|apply Drawn0.step)⟩
    ·rw [if_neg c8] at H
     have aQ:decide (48≤(bt a0 0))=false:=decide_eq_false c8;clear c8;obtain rfl:=Option.some.inj H
     go_enter Tryz.func57,Tryz.ntmps57
     go_wp2_with (first|((with_reducible refine gate_callee (f:=59) rfl ?_);refine gb_ (some 4) Tryz.func59 #[.string a0,.int .i64 5,.int .i64 8] ?_;(with_reducible refine(tag_signs.calls k a0 5 8 false _ A2.out).mono ?_);rintro e w' ⟨rfl,⟨nd,rfl⟩⟩;refine⟨_,rfl,?_⟩)|(go_at_call 59;(with_reducible refine(tag_signs.calls k a0 4 4 true _ A4.out).mono ?_);rintro e w' ⟨rfl,⟨nd,rfl⟩⟩;have p7:0≤(0:Int):=(by omega);have q7:0<a0.size:=(by have:(0:Int)<(a0.size:Int):=of_decide_eq_true (by first|(with_reducible assumption)|assumption);omega);have hx7:∀ h:0<a0.size,((a0[0]'h).toNat:Int)=bt a0 0:=bt_at a0 0;clear p7;have qi7:(0<(a0.size:Int))=True:=eq_true (of_decide_eq_true (by first|(with_reducible assumption)|assumption));replace q7:=eq_true q7))
     go_ret
     exact⟨by first|rfl|(simp;done)|(simp [*];done),by repeat (first|exact Drawn0.refl _|apply Drawn0.step)⟩
   ·rw [if_neg c6] at H
    exact absurd H (by simp)
  ·replace c5:=Bool.eq_false_iff.mpr c5
   subst c5;have H1:(some false)=some r:=by rw [if_neg (show ¬ (false=true) by decide)] at H;exact H
   clear H;have H:=H1;clear H1;obtain rfl:=Option.some.inj H
   go_enter Tryz.func57,Tryz.ntmps57
   go_wp2_with (first|((with_reducible refine gate_callee (f:=59) rfl ?_);refine gb_ (some 4) Tryz.func59 #[.string a0,.int .i64 5,.int .i64 8] ?_;(with_reducible refine(tag_signs.calls k a0 5 8 false _ A2.out).mono ?_);rintro e w' ⟨rfl,⟨nd,rfl⟩⟩;refine⟨_,rfl,?_⟩)|(go_at_call 59;(with_reducible refine(tag_signs.calls k a0 4 4 false _ A4.out).mono ?_);rintro e w' ⟨rfl,⟨nd,rfl⟩⟩))
   go_ret
   exact⟨by first|rfl|(simp;done)|(simp [*];done),by repeat (first|exact Drawn0.refl _|apply Drawn0.step)⟩
def tag_rising.f (a0:ByteArray) (a1:ByteArray):Option (Int):=if a0.toList=a1.toList then(some 6) else(if (Op.bytesLess a1.toList a0.toList)=true then(some 70) else(some 0))
set_option maxHeartbeats 8000000 in
set_option maxRecDepth 100000 in
theorem tag_rising.calls (a0:ByteArray) (a1:ByteArray) (r:Int) (w:World) (h:tag_rising.f a0 a1=some r):
 Calls Tryz.prog 58 #[.string a0,.string a1] w fun e w'=>e=.returned (.int .i64 r)∧Drawn0 w w':=by
 have H:(if a0.toList=a1.toList then(some 6) else(if (Op.bytesLess a1.toList a0.toList)=true then(some 70) else(some 0)))=some r:=h;clear h;by_cases c3:a0.toList=a1.toList
 ·rw [if_pos c3] at H
  have aQ:(a0.toList==a1.toList)=true:=beq_iff_eq.mpr c3;have aR:(a0.toList != a1.toList)=false:=bne_eq_false_iff_eq.mpr c3;clear c3;obtain rfl:=Option.some.inj H
  go_enter Tryz.func58,Tryz.ntmps58
  go_wp2
  go_ret
  exact⟨by first|rfl|(simp;done)|(simp [*];done),by repeat (first|exact Drawn0.refl _|apply Drawn0.step)⟩
 ·rw [if_neg c3] at H
  have aQ:(a0.toList==a1.toList)=false:=beq_eq_false_iff_ne.mpr c3;have aR:(a0.toList != a1.toList)=true:=bne_iff_ne.mpr c3;by_cases c4:(Op.bytesLess a1.toList a0.toList)=true
  ·rw [if_pos c4] at H
   have aC:(Op.bytesLess a1.toList a0.toList)=true:=c4;clear c4;obtain rfl:=Option.some.inj H
   go_enter Tryz.func58,Tryz.ntmps58
   go_wp2
   go_ret
   exact⟨by first|rfl|(simp;done)|(simp [*];done),by repeat (first|exact Drawn0.refl _|apply Drawn0.step)⟩
  ·rw [if_neg c4] at H
   have aC:(Op.bytesLess a1.toList a0.toList)=false:=by simpa using c4
   clear c4;obtain rfl:=Option.some.inj H
   go_enter Tryz.func58,Tryz.ntmps58
   go_wp2
   go_ret
   exact⟨by first|rfl|(simp;done)|(simp [*];done),by repeat (first|exact Drawn0.refl _|apply Drawn0.step)⟩
def Tbl (w:World):Prop:=∃ m:Int,w.cell? ⟨0,0,none⟩=some (.int .i64 m)
theorem Tbl.below {w w':World} (h:Tbl w) (hb:Below w.heap.size w w'):Tbl w':=by
 obtain⟨m,hm⟩:=h;exact⟨m,(hb.cell (p:=⟨0,0,none⟩) (World.block_lt_of_cell? w _ hm)).trans hm⟩
theorem Tbl.drewN {w:World} (h:Tbl w) (n:Nat):Tbl (w.drewN n):=h
theorem Tbl.drew {w:World} (h:Tbl w):Tbl w.drew:=h
def strings_Split.f (a0 a1:ByteArray):Option (List ByteArray):=if a0.size<4294967281 then(if 1≤a1.size then some (Lib.splitB a1 0 (Lib.countB a0 a1) a0) else none) else none
theorem strings_Split.calls (a0 a1:ByteArray) (r:List ByteArray) (w:World) (hT:Tbl w) (h:strings_Split.f a0 a1=some r):
 Calls Tryz.prog 84 #[.string a0,.string a1] w fun e w'=>∃ v0_:Value,e=.returned (v0_)∧Kd.R Kd.string 9 w' w.heap.size (fun _=>True) v0_ r∧Below w.heap.size w w':=by
 unfold strings_Split.f at h;obtain⟨m,hm⟩:=hT;by_cases hs:a0.size<4294967281
 ·rw [if_pos hs] at h
  by_cases h1:1≤a1.size
  ·rw [if_pos h1] at h
   obtain rfl:=Option.some.inj h;refine(Tryz.strings_Split a0 a1 m w hs hm h1).mono ?_;rintro e w' ⟨rfl,rfl⟩;have hl:=Lib.splitB_all a1 h1 0 _ a0 rfl;have hle:=Lib.countB_le a1 h1 _ a0 (Nat.le_refl _);have ho:=own_lit_of (enc:=Value.string) w w.heap.size 9 (Lib.splitB a1 0 (Lib.countB a0 a1) a0) (Nat.le_refl _) (by rw [hl];omega)
   rw [← hl];exact⟨_,rfl,Kd.R_of_own (enc:=Value.string) (h1:=fun _=>rfl) ho (fun _ _=>trivial),(Below.refl _ _).alloc (Nat.le_refl _) _⟩
  ·rw [if_neg h1] at h;cases h
 ·rw [if_neg hs] at h;cases h
mutual
def tag_valued.j0:Nat→ByteArray→Bool→Option (Bool)
 |0,_,_=>none
 |k+1,x0,x14=>if x14=true then(some false) else((strings_Split.f x0 (⟨#[45]⟩:ByteArray)).bind fun aA=>(tag_valued.l0 k aA (aA.length:Int) 0))
def tag_valued.l0:Nat→List ByteArray→Int→Int→Option (Bool)
 |0,_,_,_=>none
 |k+1,x16,x17,x18=>if x18<x17 then(if 0≤x18 then(if x18<(x16.length:Int) then((tag_signs.f k (rdOf ByteArray.empty x16 x18) 3 8).bind fun aI=>(if aI=true then(tag_valued.l0 k x16 x17 (wrap64 (x18+1))) else(some false))) else(none)) else(none)) else(some true)
end
def tag_valued.f (k:Nat) (a0:ByteArray):Option (Bool):=if a0.toList=([]:List UInt8) then(some true) else(if a0.toList=([116,114,117,101]:List UInt8) then(tag_valued.j0 k a0 true) else((tag_lower.f a0).bind fun aF=>(tag_valued.j0 k a0 (a0.toList != aF.toList))))
set_option maxHeartbeats 8000000 in
set_option maxRecDepth 100000 in
theorem tag_valued.calls (k:Nat) (a0:ByteArray) (r:Bool) (w:World) (hT:Tbl w) (h:tag_valued.f k a0=some r):
 Calls Tryz.prog 60 #[.string a0] w fun e w'=>e=.returned (.bool r)∧Below w.heap.size w w':=by
 have HB:=ak_ (Below.refl w.heap.size w);have HT:=ak_ hT;clear hT;have H:(if a0.toList=([]:List UInt8) then(some true) else(if a0.toList=([116,114,117,101]:List UInt8) then(tag_valued.j0 k a0 true) else((tag_lower.f a0).bind fun aF=>(tag_valued.j0 k a0 (a0.toList != aF.toList)))))=some r:=h;clear h;by_cases c2:a0.toList=([]:List UInt8)
 ·rw [if_pos c2] at H
  have aJ:(a0.toList==([]:List UInt8))=true:=beq_iff_eq.mpr c2;have aK:(a0.toList != ([]:List UInt8))=false:=bne_eq_false_iff_eq.mpr c2;have aL:a0.toList.isEmpty=true:=List.isEmpty_iff.mpr c2;clear c2;obtain rfl:=Option.some.inj H
  go_enter Tryz.func60,Tryz.ntmps60
  go_wp2
  go_ret
  exact⟨by first|rfl|(simp [errW_none,errW_some] <;> rfl)|(simp [*,errW_none,errW_some] <;> rfl),by repeat (first|(with_reducible first|exact HB.out|apply below_alloc|apply pw_below_drewN|apply below_drew1)|exact HB.out)⟩
 ·rw [if_neg c2] at H
  have aJ:(a0.toList==([]:List UInt8))=false:=beq_eq_false_iff_ne.mpr c2;have aK:(a0.toList != ([]:List UInt8))=true:=bne_iff_ne.mpr c2;have aL:a0.toList.isEmpty=false:=List.isEmpty_eq_false_iff.mpr c2;have HC3:=ak_ H;clear H
  go_enter Tryz.func60,Tryz.ntmps60
  go_upto_region 3 with (fail)
  go_cut [14] (fun v14 wc=>∃ (kq:Nat) (aH:Bool),v14=.bool aH∧Aside0 (tag_valued.j0 kq a0 aH=some r)∧Aside0 (kq≤k)∧Aside0 (Below w.heap.size w wc))
  case first=>
   have H:=HC3.out;clear HC3;by_cases c4:a0.toList=([116,114,117,101]:List UInt8)
   ·rw [if_pos c4] at H
    have aC:(a0.toList==([116,114,117,101]:List UInt8))=true:=beq_iff_eq.mpr c4;have aG:(a0.toList != ([116,114,117,101]:List UInt8))=false:=bne_eq_false_iff_eq.mpr c4;clear c4
    (first|rw [aC]|rw [aG]|rw [aM]|(simp only [i64_w,i32_w];rw [aC])|skip)
    (try simp only [Bool.not_true,Bool.not_false])
    have H':=ak_ H;clear H
    go_wp2
    go_meet
    case rel=>exact ⟨_,(true),(by first|rfl|(simp;done)|(simp [*];done)),H',⟨by first|omega|exact Nat.le_refl _⟩,⟨by repeat (first|(with_reducible first|exact HB.out|apply below_alloc|apply pw_below_drewN|apply below_drew1)|exact HB.out)⟩⟩
   ·rw [if_neg c4] at H
    have aC:(a0.toList==([116,114,117,101]:List UInt8))=false:=beq_eq_false_iff_ne.mpr c4;have aG:(a0.toList != ([116,114,117,101]:List UInt8))=true:=bne_iff_ne.mpr c4
    (first|rw [aC]|rw [aG]|rw [aM]|(simp only [i64_w,i32_w];rw [aC])|skip)
    (try simp only [Bool.not_true,Bool.not_false])
    replace H:=Option.bind_eq_some_iff.mp H;obtain⟨aF,A50,H⟩:=H;try dsimp only at H
    have A5:=ak_ A50;clear A50;have H':=ak_ H;clear H
    go_wp2_with (first|(go_at_call 44;(with_reducible refine(tag_lower.calls a0 aF _ A5.out).mono ?_);rintro e w6 ⟨rfl,hb⟩;replace HB:=ak_ (below_step hb_ hb);(try clear hb);(try clear hb2);(try clear hk);(try clear hi)))
    go_meet
    case rel=>exact ⟨_,((a0.toList != aF.toList)),(by first|rfl|(simp;done)|(simp [*];done)),H',⟨by first|omega|exact Nat.le_refl _⟩,⟨by repeat (first|(with_reducible first|exact HB.out|apply below_alloc|apply pw_below_drewN|apply below_drew1)|exact HB.out)⟩⟩
  case rest=>
   clear HC3;try clear c2
   try clear aJ
   try clear aK
   try clear aL
   try clear p2
   try clear c4
   try clear aC
   try clear aG
   try clear aM
   try clear c6
   obtain⟨kq,aH,rfl,HA,HJ2,HB⟩:=hcut;cases kq with
   |zero=>exact absurd HA.out (by simp [tag_valued.j0])
   | succ kj2=>
    have H:=HA.out;clear HA;simp only [tag_valued.j0] at H;by_cases c7:aH=true
    ·subst c7
     have H1:(some false)=some r:=by rw [if_pos rfl] at H;exact H
     clear H;have H:=H1;clear H1;obtain rfl:=Option.some.inj H
     go_wp2
     go_ret
     exact⟨by first|rfl|(simp [errW_none,errW_some] <;> rfl)|(simp [*,errW_none,errW_some] <;> rfl),by repeat (first|(with_reducible first|exact HB.out|apply below_alloc|apply pw_below_drewN|apply below_drew1)|exact HB.out)⟩
    ·replace c7:=Bool.eq_false_iff.mpr c7
     subst c7;have H1:((strings_Split.f a0 (⟨#[45]⟩:ByteArray)).bind fun aA=>(tag_valued.l0 kj2 aA (aA.length:Int) 0))=some r:=by rw [if_neg (show ¬ (false=true) by decide)] at H;exact H
     clear H;have H:=H1;clear H1;replace H:=Option.bind_eq_some_iff.mp H;obtain⟨aA,A80,H⟩:=H;try dsimp only at H
     have A8:=ak_ A80;clear A80;have H':=ak_ H;clear H
     go_wp2_with (first|((with_reducible refine gate_callee (f:=84) rfl ?_);refine gb_ (some 16) Tryz.func84 #[.string a0,.string (⟨#[45]⟩:ByteArray)] ?_;(with_reducible refine(strings_Split.calls a0 (⟨#[45]⟩:ByteArray) aA _ (Tbl.below HT.out hb_) A8.out).mono ?_);rintro e w9 ⟨v172,rfl,ho0,hb⟩;refine⟨_,rfl,?_⟩;have aO:=ak_ (Kd.R_lower ho0 hz_);replace HB:=ak_ (below_step hb_ hb);(try clear hb);(try clear hb2);(try clear hk);(try clear hi);(try clear ho0);obtain⟨aS,aT,aU⟩:=Kd.R_slice aO.out;subst aU))
     go_loopg [18] kj2 (fun kq v18 w'=>∃ (aB:Int),v18=.int .i64 aB∧Aside0 (tag_valued.l0 kq aA (aA.length:Int) aB=some r)∧Aside0 (kq≤kj2)∧Aside0 (Kd.R Kd.string 9 w' w.heap.size (fun _=>True) (.slice aS aA.length aT) aA)∧Aside0 (Below w.heap.size w w'))
     case atStart=>exact ⟨(0),(by first|rfl|(simp;done)|(simp [*];done)),H',⟨Nat.le_refl _⟩,⟨by(with_reducible repeat (first|apply Kd.R_alloc|apply Kd.R_drewN|apply Kd.R_drew));exact aO.out⟩,⟨by repeat (first|(with_reducible first|exact HB.out|apply below_alloc|apply pw_below_drewN|apply below_drew1)|exact HB.out)⟩⟩
     case round=>
      clear H';try clear c2
      try clear aJ
      try clear aK
      try clear aL
      try clear p2
      try clear c4
      try clear aC
      try clear aG
      try clear aM
      try clear c6
      try clear c7
      try clear c8
      try clear p2
      obtain⟨aB,rfl,HA,HK2,HO_16,HB⟩:=hrel;cases gk with
      |zero=>exact absurd HA.out (by simp [tag_valued.l0])
      | succ k2=>
       have H:=HA.out;clear HA;simp only [tag_valued.l0] at H;by_cases c11:aB<(aA.length:Int)
       ·rw [if_pos c11] at H
        have aV:decide (aB<(aA.length:Int))=true:=decide_eq_true c11;clear c11;by_cases c12:0≤aB
        ·rw [if_pos c12] at H
         have c12b0:decide (0≤aB)=true:=decide_eq_true c12;clear c12;by_cases c13:aB<(aA.length:Int)
         ·rw [if_pos c13] at H
          have c13b0:decide (aB<(aA.length:Int))=true:=decide_eq_true c13;clear c13;replace H:=Option.bind_eq_some_iff.mp H;obtain⟨aI,aP,H⟩:=H;try dsimp only at H
          have A14:=ak_ aP;clear aP;by_cases c15:aI=true
          ·subst c15
           have H1:(tag_valued.l0 k2 aA (aA.length:Int) (wrap64 (aB+1)))=some r:=by rw [if_pos rfl] at H;exact H
           clear H;have H:=H1;clear H1;have H':=ak_ H;clear H;have aD:0≤(aB:Int):=of_decide_eq_true (by first|(with_reducible assumption)|assumption)
           have aE:aB<(aA.length:Int):=of_decide_eq_true (by first|(with_reducible assumption)|assumption)
           obtain⟨aW,aN,aX⟩:=Kd.at_string (Kd.R_reads' HO_16.out).2.2 aB aD aE;cases aN;replace aD:=eq_true aD;replace aE:=eq_true aE
           go_wp2_with (first|((with_reducible refine gate_callee (f:=59) rfl ?_);refine gb_ (some 23) Tryz.func59 #[.string (rdOf ByteArray.empty aA aB),.int .i64 3,.int .i64 8] ?_;(with_reducible refine(tag_signs.calls k2 (rdOf ByteArray.empty aA aB) 3 8 true _ A14.out).mono ?_);rintro e w' ⟨rfl,⟨nd,rfl⟩⟩;refine⟨_,rfl,?_⟩))
           go_roundg k2
           case measure=>have:=HJ2.out;have:=HK2.out;omega
           case rel=>exact ⟨(wrap64 (aB+1)),(by first|rfl|(simp;done)|(simp [*];done)),H',⟨by have:=HJ2.out;have:=HK2.out;omega⟩,⟨by(with_reducible repeat (first|apply Kd.R_alloc|apply Kd.R_drewN|apply Kd.R_drew));exact HO_16.out⟩,⟨by repeat (first|(with_reducible first|exact HB.out|apply below_alloc|apply pw_below_drewN|apply below_drew1)|exact HB.out)⟩⟩
          ·replace c15:=Bool.eq_false_iff.mpr c15
           subst c15;have H1:(some false)=some r:=by rw [if_neg (show ¬ (false=true) by decide)] at H;exact H
           clear H;have H:=H1;clear H1;obtain rfl:=Option.some.inj H;have aD:0≤(aB:Int):=of_decide_eq_true (by first|(with_reducible assumption)|assumption)
           have aE:aB<(aA.length:Int):=of_decide_eq_true (by first|(with_reducible assumption)|assumption)
           obtain⟨aW,aN,aX⟩:=Kd.at_string (Kd.R_reads' HO_16.out).2.2 aB aD aE;cases aN;replace aD:=eq_true aD;replace aE:=eq_true aE
           go_wp2_with (first|((with_reducible refine gate_callee (f:=59) rfl ?_);refine gb_ (some 23) Tryz.func59 #[.string (rdOf ByteArray.empty aA aB),.int .i64 3,.int .i64 8] ?_;(with_reducible refine(tag_signs.calls k2 (rdOf ByteArray.empty aA aB) 3 8 false _ A14.out).mono ?_);rintro e w' ⟨rfl,⟨nd,rfl⟩⟩;refine⟨_,rfl,?_⟩))
           go_ret
           exact⟨by first|rfl|(simp [errW_none,errW_some] <;> rfl)|(simp [*,errW_none,errW_some] <;> rfl),by repeat (first|(with_reducible first|exact HB.out|apply below_alloc|apply pw_below_drewN|apply below_drew1)|exact HB.out)⟩
         ·rw [if_neg c13] at H
          exact absurd H (by simp)
        ·rw [if_neg c12] at H
         exact absurd H (by simp)
       ·rw [if_neg c11] at H
        have aV:decide (aB<(aA.length:Int))=false:=decide_eq_false c11;clear c11;obtain rfl:=Option.some.inj H
        go_wp2
        go_ret
        exact⟨by first|rfl|(simp [errW_none,errW_some] <;> rfl)|(simp [*,errW_none,errW_some] <;> rfl),by repeat (first|(with_reducible first|exact HB.out|apply below_alloc|apply pw_below_drewN|apply below_drew1)|exact HB.out)⟩
def strings_Join.f (l0:List ByteArray) (a1:ByteArray):Option ByteArray:=if l0.length≤140737488355328 then(if (Lib.join (l0.map (·.data.toList)) a1.data.toList).length≤140737488355328 then some ⟨(Lib.join (l0.map (·.data.toList)) a1.data.toList).toArray⟩ else none) else none
theorem strings_Join.calls (A0:Option Addr) (c0:Nat) (l0:List ByteArray) (a1:ByteArray) (r:ByteArray) (w:World) (hr0:Kd.C Kd.string w A0 l0.length l0) (hc0:l0.length≤c0) (h:strings_Join.f l0 a1=some r):
 Calls Tryz.prog 69 #[.slice A0 l0.length c0,.string a1] w fun e w'=>e=.returned (.string r)∧Below w.heap.size w w':=by
 unfold strings_Join.f at h;by_cases h1:l0.length≤140737488355328
 ·rw [if_pos h1] at h
  by_cases h2:(Lib.join (l0.map (·.data.toList)) a1.data.toList).length≤140737488355328
  ·rw [if_pos h2] at h
   obtain rfl:=Option.some.inj h;clear h;by_cases h0:0<l0.length
   ·obtain ⟨bk,o,rfl,hlt,hc⟩:=strings_at_ hr0 h0
    refine(Tryz.strings_Join bk o c0 l0 a1 w (fun j x hj=>?_) hlt h1 hc0 h2).mono ?_
    ·have hjl:j<l0.length:=(List.getElem?_eq_some_iff.1 hj).1
     have hh:=hc j hjl;rw [List.getD_eq_getElem?_getD,hj] at hh;exact hh
    ·rintro e w' ⟨rfl,hb⟩;exact⟨rfl,hb⟩
   ·have hl:l0=[]:=by cases l0 with|nil=>rfl|cons x xs=>simp at h0
    subst hl;refine(Tryz.strings_Join_none A0 c0 a1 w).mono ?_;rintro e w' ⟨rfl,rfl⟩;exact⟨rfl,Below.refl _ _⟩
  ·rw [if_neg h2] at h;cases h
 ·rw [if_neg h1] at h;cases h
def i7_letter.f (a0:Int):Option (Bool):=if a0≥97 then(if a0≤122 then(some true) else(if a0≥65 then(some (decide (a0≤90))) else(some false))) else(if a0≥65 then(some (decide (a0≤90))) else(some false))
set_option maxHeartbeats 8000000 in
set_option maxRecDepth 100000 in
theorem i7_letter.calls (a0:Int) (r:Bool) (w:World) (h:i7_letter.f a0=some r):
 Calls Tryz.prog 66 #[.int .u8 a0] w fun e w'=>e=.returned (.bool r)∧Drawn0 w w':=by
 have H:(if a0≥97 then(if a0≤122 then(some true) else(if a0≥65 then(some (decide (a0≤90))) else(some false))) else(if a0≥65 then(some (decide (a0≤90))) else(some false)))=some r:=h;clear h;by_cases c2:a0≥97
 ·rw [if_pos c2] at H
  have aH:decide (97≤a0)=true:=decide_eq_true c2;clear c2;by_cases c3:a0≤122
  ·rw [if_pos c3] at H
   have aE:decide (a0≤122)=true:=decide_eq_true c3;clear c3;obtain rfl:=Option.some.inj H
   go_enter Tryz.func66,Tryz.ntmps66
   go_wp2
   go_ret
   exact⟨by first|rfl|(simp;done)|(simp [*];done),by repeat (first|exact Drawn0.refl _|apply Drawn0.step)⟩
  ·rw [if_neg c3] at H
   have aE:decide (a0≤122)=false:=decide_eq_false c3;clear c3;by_cases c4:a0≥65
   ·rw [if_pos c4] at H
    have aG:decide (65≤a0)=true:=decide_eq_true c4;clear c4;obtain rfl:=Option.some.inj H
    go_enter Tryz.func66,Tryz.ntmps66
    go_wp2
    go_ret
    exact⟨by first|rfl|(simp;done)|(simp [*];done),by repeat (first|exact Drawn0.refl _|apply Drawn0.step)⟩
   ·rw [if_neg c4] at H
    have aG:decide (65≤a0)=false:=decide_eq_false c4;clear c4;obtain rfl:=Option.some.inj H
    go_enter Tryz.func66,Tryz.ntmps66
    go_wp2
    go_ret
    exact⟨by first|rfl|(simp;done)|(simp [*];done),by repeat (first|exact Drawn0.refl _|apply Drawn0.step)⟩
 ·rw [if_neg c2] at H
  have aH:decide (97≤a0)=false:=decide_eq_false c2;clear c2;by_cases c5:a0≥65
  ·rw [if_pos c5] at H
   have aI:decide (65≤a0)=true:=decide_eq_true c5;clear c5;obtain rfl:=Option.some.inj H
   go_enter Tryz.func66,Tryz.ntmps66
   go_wp2
   go_ret
   exact⟨by first|rfl|(simp;done)|(simp [*];done),by repeat (first|exact Drawn0.refl _|apply Drawn0.step)⟩
  ·rw [if_neg c5] at H
   have aI:decide (65≤a0)=false:=decide_eq_false c5;clear c5;obtain rfl:=Option.some.inj H
   go_enter Tryz.func66,Tryz.ntmps66
   go_wp2
   go_ret
   exact⟨by first|rfl|(simp;done)|(simp [*];done),by repeat (first|exact Drawn0.refl _|apply Drawn0.step)⟩
def i7_letters.l0:Nat→ByteArray→Int→Int→Option (Bool)
 |0,_,_,_=>none
 |k+1,x0,x1,x5=>if x5<(x0.size:Int) then(if 0≤x5 then((i7_letter.f (bt x0 x5)).bind fun aF=>(if aF=true then(i7_letters.l0 k x0 x1 (wrap64 (x5+1))) else(some false))) else(none)) else(some ((x0.size:Int)==x1))
def i7_letters.f (k:Nat) (a0:ByteArray) (a1:Int):Option (Bool):=i7_letters.l0 k a0 a1 0
set_option maxHeartbeats 8000000 in
set_option maxRecDepth 100000 in
theorem i7_letters.calls (k:Nat) (a0:ByteArray) (a1:Int) (r:Bool) (w:World) (h:i7_letters.f k a0 a1=some r):
 Calls Tryz.prog 64 #[.string a0,.int .i64 a1] w fun e w'=>e=.returned (.bool r)∧Drawn0 w w':=by
 have H:(i7_letters.l0 k a0 a1 0)=some r:=h;clear h;have H':=ak_ H;clear H
 go_enter Tryz.func64,Tryz.ntmps64
 go_wp2
 go_loopg [5] k (fun kq v5 w'=>∃ (aA:Int),v5=.int .i64 aA∧Aside0 (i7_letters.l0 kq a0 a1 aA=some r)∧Aside0 (kq≤k)∧Drawn0 w w')
 case atStart=>exact ⟨(0),(by first|rfl|(simp;done)|(simp [*];done)),H',⟨Nat.le_refl _⟩,by repeat (first|exact Drawn0.refl _|apply Drawn0.step)⟩
 case round=>
  clear H';try clear p2
  obtain⟨aA,rfl,HA,HK1,⟨m1,rfl⟩⟩:=hrel;cases gk with
  |zero=>exact absurd HA.out (by simp [i7_letters.l0])
  | succ k1=>
   have H:=HA.out;clear HA;simp only [i7_letters.l0] at H;by_cases c3:aA<(a0.size:Int)
   ·rw [if_pos c3] at H
    have aE:decide (aA<(a0.size:Int))=true:=decide_eq_true c3;clear c3;by_cases c4:0≤aA
    ·rw [if_pos c4] at H
     have aG:decide (0≤aA)=true:=decide_eq_true c4;clear c4;replace H:=Option.bind_eq_some_iff.mp H;obtain⟨aF,A60,H⟩:=H;try dsimp only at H
     have A6:=ak_ A60;clear A60;by_cases c7:aF=true
     ·subst c7
      have H1:(i7_letters.l0 k1 a0 a1 (wrap64 (aA+1)))=some r:=by rw [if_pos rfl] at H;exact H
      clear H;have H:=H1;clear H1;have H':=ak_ H;clear H;have p5:0≤(aA:Int):=of_decide_eq_true (by first|(with_reducible assumption)|assumption)
      have q5:aA<(a0.size:Int):=of_decide_eq_true (by first|(with_reducible assumption)|assumption)
      have hx5:=bt_at a0 aA;replace p5:=eq_true p5;replace q5:=eq_true q5
      go_wp2_with (first|((with_reducible refine gate_callee (f:=66) rfl ?_);refine gb_ (some 15) Tryz.func66 #[.int .u8 (bt a0 aA)] ?_;(with_reducible refine(i7_letter.calls (bt a0 aA) true _ A6.out).mono ?_);rintro e w' ⟨rfl,⟨nd,rfl⟩⟩;refine⟨_,rfl,?_⟩))
      go_roundg k1
      case measure=>have:=HK1.out;omega
      case rel=>exact ⟨(wrap64 (aA+1)),(by first|rfl|(simp;done)|(simp [*];done)),H',⟨by have:=HK1.out;omega⟩,by repeat (first|exact Drawn0.refl _|apply Drawn0.step)⟩
     ·replace c7:=Bool.eq_false_iff.mpr c7
      subst c7;have H1:(some false)=some r:=by rw [if_neg (show ¬ (false=true) by decide)] at H;exact H
      clear H;have H:=H1;clear H1;obtain rfl:=Option.some.inj H;have p5:0≤(aA:Int):=of_decide_eq_true (by first|(with_reducible assumption)|assumption)
      have q5:aA<(a0.size:Int):=of_decide_eq_true (by first|(with_reducible assumption)|assumption)
      have hx5:=bt_at a0 aA;replace p5:=eq_true p5;replace q5:=eq_true q5
      go_wp2_with (first|((with_reducible refine gate_callee (f:=66) rfl ?_);refine gb_ (some 15) Tryz.func66 #[.int .u8 (bt a0 aA)] ?_;(with_reducible refine(i7_letter.calls (bt a0 aA) false _ A6.out).mono ?_);rintro e w' ⟨rfl,⟨nd,rfl⟩⟩;refine⟨_,rfl,?_⟩))
      go_ret
      exact⟨by first|rfl|(simp;done)|(simp [*];done),by repeat (first|exact Drawn0.refl _|apply Drawn0.step)⟩
    ·rw [if_neg c4] at H
     exact absurd H (by simp)
   ·rw [if_neg c3] at H
    have aE:decide (aA<(a0.size:Int))=false:=decide_eq_false c3;clear c3;obtain rfl:=Option.some.inj H
    go_wp2
    go_ret
    exact⟨by first|rfl|(simp;done)|(simp [*];done),by repeat (first|exact Drawn0.refl _|apply Drawn0.step)⟩
def i7_lang.f (k:Nat) (a0:ByteArray):Option (Bool):=(i7_letters.f k a0 2).bind fun aC=>(if aC=true then(some true) else((i7_letters.f k a0 3).bind fun aB=>(some aB)))
set_option maxHeartbeats 8000000 in
set_option maxRecDepth 100000 in
theorem i7_lang.calls (k:Nat) (a0:ByteArray) (r:Bool) (w:World) (h:i7_lang.f k a0=some r):
 Calls Tryz.prog 28 #[.string a0] w fun e w'=>e=.returned (.bool r)∧Drawn0 w w':=by
 have H:((i7_letters.f k a0 2).bind fun aC=>(if aC=true then(some true) else((i7_letters.f k a0 3).bind fun aB=>(some aB))))=some r:=h;clear h;replace H:=Option.bind_eq_some_iff.mp H;obtain⟨aC,A20,H⟩:=H;try dsimp only at H
 have A2:=ak_ A20;clear A20;by_cases c3:aC=true
 ·subst c3
  have H1:(some true)=some r:=by rw [if_pos rfl] at H;exact H
  clear H;have H:=H1;clear H1;obtain rfl:=Option.some.inj H
  go_enter Tryz.func28,Tryz.ntmps28
  go_wp2_with (first|((with_reducible refine gate_callee (f:=64) rfl ?_);refine gb_ (some 4) Tryz.func64 #[.string a0,.int .i64 2] ?_;(with_reducible refine(i7_letters.calls k a0 2 true _ A2.out).mono ?_);rintro e w' ⟨rfl,⟨nd,rfl⟩⟩;refine⟨_,rfl,?_⟩))
  go_ret
  exact⟨by first|rfl|(simp;done)|(simp [*];done),by repeat (first|exact Drawn0.refl _|apply Drawn0.step)⟩
 ·replace c3:=Bool.eq_false_iff.mpr c3
  subst c3;have H1:((i7_letters.f k a0 3).bind fun aB=>(some aB))=some r:=by rw [if_neg (show ¬ (false=true) by decide)] at H;exact H
  clear H;have H:=H1;clear H1;replace H:=Option.bind_eq_some_iff.mp H;obtain⟨aB,A40,H⟩:=H;try dsimp only at H
  have A4:=ak_ A40;clear A40;obtain rfl:=Option.some.inj H
  go_enter Tryz.func28,Tryz.ntmps28
  go_wp2_with (first|((with_reducible refine gate_callee (f:=64) rfl ?_);refine gb_ (some 4) Tryz.func64 #[.string a0,.int .i64 2] ?_;(with_reducible refine(i7_letters.calls k a0 2 false _ A2.out).mono ?_);rintro e w' ⟨rfl,⟨nd,rfl⟩⟩;refine⟨_,rfl,?_⟩)|(go_at_call 64;(with_reducible refine(i7_letters.calls k a0 3 aB _ A4.out).mono ?_);rintro e w' ⟨rfl,⟨nd,rfl⟩⟩))
  go_ret
  exact⟨by first|rfl|(simp;done)|(simp [*];done),by repeat (first|exact Drawn0.refl _|apply Drawn0.step)⟩
def i7_Small.g (b:UInt8):UInt8:=if 65≤b.toNat∧b.toNat≤90 then UInt8.ofNat (b.toNat+32) else b
def i7_Small.f (a0:ByteArray):Option ByteArray:=if a0.size<9223372036854775807 then some ⟨(a0.data.toList.map i7_Small.g).toArray⟩ else none
set_option maxHeartbeats 4000000 in
set_option maxRecDepth 100000 in
theorem i7_Small.calls (a0 r:ByteArray) (w:World) (h:i7_Small.f a0=some r):
 Calls Tryz.prog 29 #[.string a0] w fun e w'=>e=.returned (.string r)∧Below w.heap.size w w':=by
 unfold i7_Small.f at h;by_cases hs:a0.size<9223372036854775807
 ·rw [if_pos hs] at h
  obtain rfl:=Option.some.inj h;clear h;have hcv:∀ W:World,(convert 9 82 (.string a0)).run Tryz.prog W=.ok (.slice (some ⟨W.heap.size,0,none⟩) a0.size (grownCap W a0.size 0 5)) (Lib.bytesWorld W 5 a0):=fun W=>Lib.run_convert_string_bytes W 9 82 5 a0 Tryz.underlying9 Tryz.underlying82 Tryz.underlying5;have hB0:Below w.heap.size w (Lib.bytesWorld w 5 a0):=bytes_below (Below.refl _ _) (Nat.le_refl _) 5 a0;have hC0:BytesAt (Lib.bytesWorld w 5 a0) w.heap.size a0.size (tAt i7_Small.g a0.data.toList 0):=(BytesAt.conv w 5 a0).congr (fun j=>tAt_old (Nat.zero_le _))
  go_enter Tryz.func29,Tryz.ntmps29
  go_wp2
  go_loopg [4] (a0.size+1) (fun kq v4 w'=>∃ i:Nat,v4=.int .i64 (i:Int)∧Aside0 (kq+i=a0.size+1)∧Aside0 (i≤a0.size)∧Aside0 (BytesAt w' w.heap.size a0.size (tAt i7_Small.g a0.data.toList i))∧Aside0 (Below w.heap.size w w'))
  case atStart=>exact ⟨0,rfl,⟨rfl⟩,⟨Nat.zero_le _⟩,⟨hC0⟩,⟨hB0⟩⟩
  case round=>
   obtain⟨i,rfl,HK,HI,HC,HB⟩:=hrel;cases gk with
   |zero=>exact absurd HK.out (by have:=HI.out;omega)
   | succ k1=>
    by_cases c1:i<a0.size
    ·have t1:decide ((i:Int)<(a0.size:Int))=true:=decide_eq_true (by omega)
     obtain⟨x,hx⟩:∃ x,x=a0.data.toList.getD i 0:=⟨_,rfl⟩;have hcell:=(HC.out i c1).1;have hfz:=(HC.out i c1).2;rw [tAt_old (Nat.le_refl _),← hx] at hcell;have HX:=ak_ hx;clear hx;have hw1:IntKind.i64.wrap ((i:Int)+1)=(i:Int)+1:=by simp [IntKind.wrap,IntKind.bits,IntKind.signed];omega
     have hxl:=x.toNat_lt;have HXL:=ak_ hxl;clear hxl;by_cases c2:65≤x.toNat∧x.toNat≤90
     ·have t2:decide ((65:Int)≤(x.toNat:Int))=true:=decide_eq_true (by omega)
      have t3:decide ((x.toNat:Int)≤90)=true:=decide_eq_true (by omega)
      have C2:=ak_ c2;clear c2
      go_wp2
      go_roundg k1
      case measure=>omega
      case rel=>exact ⟨i+1,by go_num,⟨by have:=HK.out;omega⟩,⟨by omega⟩,⟨HC.out.set (fun j hj=>tAt_next hj) (by rw [tAt_here,← HX.out];unfold i7_Small.g;rw [if_pos C2.out,UInt8.toNat_ofNat'];have:=C2.out;first|omega|(simp [IntKind.wrap,IntKind.bits,IntKind.signed];omega))⟩,⟨HB.out.setCell (Nat.le_refl _) _⟩⟩
     ·have hlow:i7_Small.g x=x:=if_neg c2
      have HL:=ak_ hlow;clear hlow;by_cases c3:65≤x.toNat
      ·have t2:decide ((65:Int)≤(x.toNat:Int))=true:=decide_eq_true (by omega)
       have t3:decide ((x.toNat:Int)≤90)=false:=decide_eq_false (by omega)
       clear c2 c3
       go_wp2
       go_roundg k1
       case measure=>omega
       case rel=>exact ⟨i+1,by go_num,⟨by have:=HK.out;omega⟩,⟨by omega⟩,⟨HC.out.congr (fun j=>tAt_same (by rw [← HX.out];exact HL.out) j)⟩,⟨HB.out⟩⟩
      ·have t2:decide ((65:Int)≤(x.toNat:Int))=false:=decide_eq_false (by omega)
       clear c2 c3
       go_wp2
       go_roundg k1
       case measure=>omega
       case rel=>exact ⟨i+1,by go_num,⟨by have:=HK.out;omega⟩,⟨by omega⟩,⟨HC.out.congr (fun j=>tAt_same (by rw [← HX.out];exact HL.out) j)⟩,⟨HB.out⟩⟩
    ·have t1:decide ((i:Int)<(a0.size:Int))=false:=decide_eq_false (by omega)
     have hi:i=a0.size:=by have:=HI.out;omega
     subst hi;have hbk:=tAt_done (P:=Tryz.prog) (cap:=grownCap w a0.size 0 5) Tryz.underlying82 Tryz.underlying5 Tryz.underlying9 HC.out
     go_wp2
     go_ret
     exact⟨rfl,HB.out⟩
 ·rw [if_neg hs] at h;cases h
def i7_script.f (k:Nat) (a0:ByteArray):Option (Bool):=(i7_letters.f k a0 4).bind fun aD=>(some aD)
set_option maxHeartbeats 8000000 in
set_option maxRecDepth 100000 in
theorem i7_script.calls (k:Nat) (a0:ByteArray) (r:Bool) (w:World) (h:i7_script.f k a0=some r):
 Calls Tryz.prog 30 #[.string a0] w fun e w'=>e=.returned (.bool r)∧Drawn0 w w':=by
 have H:((i7_letters.f k a0 4).bind fun aD=>(some aD))=some r:=h;clear h;replace H:=Option.bind_eq_some_iff.mp H;obtain⟨aD,A20,H⟩:=H;try dsimp only at H
 have A2:=ak_ A20;clear A20;obtain rfl:=Option.some.inj H
 go_enter Tryz.func30,Tryz.ntmps30
 go_wp2_with (first|((with_reducible refine gate_callee (f:=64) rfl ?_);refine gb_ (some 4) Tryz.func64 #[.string a0,.int .i64 4] ?_;(with_reducible refine(i7_letters.calls k a0 4 aD _ A2.out).mono ?_);rintro e w' ⟨rfl,⟨nd,rfl⟩⟩;refine⟨_,rfl,?_⟩))
 go_ret
 exact⟨by first|rfl|(simp;done)|(simp [*];done),by repeat (first|exact Drawn0.refl _|apply Drawn0.step)⟩
def i7_great.g (b:UInt8):UInt8:=if 97≤b.toNat∧b.toNat≤122 then UInt8.ofNat (b.toNat - 32) else b
def i7_great.f (a0:ByteArray):Option ByteArray:=if a0.size<9223372036854775807 then some ⟨(a0.data.toList.map i7_great.g).toArray⟩ else none
set_option maxHeartbeats 4000000 in
set_option maxRecDepth 100000 in
theorem i7_great.calls (a0 r:ByteArray) (w:World) (h:i7_great.f a0=some r):
 Calls Tryz.prog 33 #[.string a0] w fun e w'=>e=.returned (.string r)∧Below w.heap.size w w':=by
 unfold i7_great.f at h;by_cases hs:a0.size<9223372036854775807
 ·rw [if_pos hs] at h
  obtain rfl:=Option.some.inj h;clear h;have hcv:∀ W:World,(convert 9 82 (.string a0)).run Tryz.prog W=.ok (.slice (some ⟨W.heap.size,0,none⟩) a0.size (grownCap W a0.size 0 5)) (Lib.bytesWorld W 5 a0):=fun W=>Lib.run_convert_string_bytes W 9 82 5 a0 Tryz.underlying9 Tryz.underlying82 Tryz.underlying5;have hB0:Below w.heap.size w (Lib.bytesWorld w 5 a0):=bytes_below (Below.refl _ _) (Nat.le_refl _) 5 a0;have hC0:BytesAt (Lib.bytesWorld w 5 a0) w.heap.size a0.size (tAt i7_great.g a0.data.toList 0):=(BytesAt.conv w 5 a0).congr (fun j=>tAt_old (Nat.zero_le _))
  go_enter Tryz.func33,Tryz.ntmps33
  go_wp2
  go_loopg [4] (a0.size+1) (fun kq v4 w'=>∃ i:Nat,v4=.int .i64 (i:Int)∧Aside0 (kq+i=a0.size+1)∧Aside0 (i≤a0.size)∧Aside0 (BytesAt w' w.heap.size a0.size (tAt i7_great.g a0.data.toList i))∧Aside0 (Below w.heap.size w w'))
  case atStart=>exact ⟨0,rfl,⟨rfl⟩,⟨Nat.zero_le _⟩,⟨hC0⟩,⟨hB0⟩⟩
  case round=>
   obtain⟨i,rfl,HK,HI,HC,HB⟩:=hrel;cases gk with
   |zero=>exact absurd HK.out (by have:=HI.out;omega)
   | succ k1=>
    by_cases c1:i<a0.size
    ·have t1:decide ((i:Int)<(a0.size:Int))=true:=decide_eq_true (by omega)
     obtain⟨x,hx⟩:∃ x,x=a0.data.toList.getD i 0:=⟨_,rfl⟩;have hcell:=(HC.out i c1).1;have hfz:=(HC.out i c1).2;rw [tAt_old (Nat.le_refl _),← hx] at hcell;have HX:=ak_ hx;clear hx;have hw1:IntKind.i64.wrap ((i:Int)+1)=(i:Int)+1:=by simp [IntKind.wrap,IntKind.bits,IntKind.signed];omega
     have hxl:=x.toNat_lt;have HXL:=ak_ hxl;clear hxl;by_cases c2:97≤x.toNat∧x.toNat≤122
     ·have t2:decide ((97:Int)≤(x.toNat:Int))=true:=decide_eq_true (by omega)
      have t3:decide ((x.toNat:Int)≤122)=true:=decide_eq_true (by omega)
      have C2:=ak_ c2;clear c2
      go_wp2
      go_roundg k1
      case measure=>omega
      case rel=>exact ⟨i+1,by go_num,⟨by have:=HK.out;omega⟩,⟨by omega⟩,⟨HC.out.set (fun j hj=>tAt_next hj) (by rw [tAt_here,← HX.out];unfold i7_great.g;rw [if_pos C2.out,UInt8.toNat_ofNat'];have:=C2.out;first|omega|(simp [IntKind.wrap,IntKind.bits,IntKind.signed];omega))⟩,⟨HB.out.setCell (Nat.le_refl _) _⟩⟩
     ·have hlow:i7_great.g x=x:=if_neg c2
      have HL:=ak_ hlow;clear hlow;by_cases c3:97≤x.toNat
      ·have t2:decide ((97:Int)≤(x.toNat:Int))=true:=decide_eq_true (by omega)
       have t3:decide ((x.toNat:Int)≤122)=false:=decide_eq_false (by omega)
       clear c2 c3
       go_wp2
       go_roundg k1
       case measure=>omega
       case rel=>exact ⟨i+1,by go_num,⟨by have:=HK.out;omega⟩,⟨by omega⟩,⟨HC.out.congr (fun j=>tAt_same (by rw [← HX.out];exact HL.out) j)⟩,⟨HB.out⟩⟩
      ·have t2:decide ((97:Int)≤(x.toNat:Int))=false:=decide_eq_false (by omega)
       clear c2 c3
       go_wp2
       go_roundg k1
       case measure=>omega
       case rel=>exact ⟨i+1,by go_num,⟨by have:=HK.out;omega⟩,⟨by omega⟩,⟨HC.out.congr (fun j=>tAt_same (by rw [← HX.out];exact HL.out) j)⟩,⟨HB.out⟩⟩
    ·have t1:decide ((i:Int)<(a0.size:Int))=false:=decide_eq_false (by omega)
     have hi:i=a0.size:=by have:=HI.out;omega
     subst hi;have hbk:=tAt_done (P:=Tryz.prog) (cap:=grownCap w a0.size 0 5) Tryz.underlying82 Tryz.underlying5 Tryz.underlying9 HC.out
     go_wp2
     go_ret
     exact⟨rfl,HB.out⟩
 ·rw [if_neg hs] at h;cases h
def i7_title.f (a0:ByteArray):Option (ByteArray):=if a0.toList=([]:List UInt8) then(some (⟨#[]⟩:ByteArray)) else(if 0≤1 then(if 1≤(a0.size:Int) then((i7_great.f (a0.extract 0 1)).bind fun aB=>((i7_Small.f (a0.extract 1 a0.size)).bind fun aC=>(if aB.size+aC.size≤9223372036854775807 then(some (aB++aC)) else(none)))) else(none)) else(none))
def i7_title.T3:Bool×List (List Nat×List Nat):=(true,[([],[]),([0],[0]),([1],[1]),([],[]),([3],[3]),([4,2],[4]),([2,5],[2,5]),([6,5,0,1,2,3,4,5,6],[6])])
def i7_title.B3:List Nat:=[0,1,3,0,8,31,63,127]
theorem i7_title.tab3:rtab .any (opsOf Tryz.f31 3)=i7_title.T3:=by kernel_rfl
theorem i7_title.bits3:waitsOk i7_title.T3.2 i7_title.B3=true:=by kernel_rfl
set_option maxHeartbeats 8000000 in
set_option maxRecDepth 100000 in
theorem i7_title.calls (a0:ByteArray) (r:ByteArray) (w:World) (h:i7_title.f a0=some r):
 Calls Tryz.prog 31 #[.string a0] w fun e w'=>e=.returned (.string r)∧Below w.heap.size w w':=by
 have HB:=ak_ (Below.refl w.heap.size w);have H:(if a0.toList=([]:List UInt8) then(some (⟨#[]⟩:ByteArray)) else(if 0≤1 then(if 1≤(a0.size:Int) then((i7_great.f (a0.extract 0 1)).bind fun aB=>((i7_Small.f (a0.extract 1 a0.size)).bind fun aC=>(if aB.size+aC.size≤9223372036854775807 then(some (aB++aC)) else(none)))) else(none)) else(none)))=some r:=h;clear h;by_cases c2:a0.toList=([]:List UInt8)
 ·rw [if_pos c2] at H
  have aG:(a0.toList==([]:List UInt8))=true:=beq_iff_eq.mpr c2;have aL:(a0.toList != ([]:List UInt8))=false:=bne_eq_false_iff_eq.mpr c2;have aM:a0.toList.isEmpty=true:=List.isEmpty_iff.mpr c2;clear c2;obtain rfl:=Option.some.inj H
  go_enter Tryz.func31,Tryz.ntmps31
  go_wp2
  go_ret
  exact⟨by first|rfl|(simp [errW_none,errW_some] <;> rfl)|(simp [*,errW_none,errW_some] <;> rfl),by repeat (first|(with_reducible first|exact HB.out|apply below_alloc|apply pw_below_drewN|apply below_drew1)|exact HB.out)⟩
 ·rw [if_neg c2] at H
  have aG:(a0.toList==([]:List UInt8))=false:=beq_eq_false_iff_ne.mpr c2;have aL:(a0.toList != ([]:List UInt8))=true:=bne_iff_ne.mpr c2;have aM:a0.toList.isEmpty=false:=List.isEmpty_eq_false_iff.mpr c2;by_cases c3:0≤1
  ·rw [if_pos c3] at H
   have c3b0:=eq_true c3;have c3b1:decide (0≤1)=true:=decide_eq_true c3;clear c3;by_cases c4:1≤(a0.size:Int)
   ·rw [if_pos c4] at H
    have aH:=eq_true c4;have aI:decide (1≤(a0.size:Int))=true:=decide_eq_true c4;clear c4;replace H:=Option.bind_eq_some_iff.mp H;obtain⟨aB,A50,H⟩:=H;try dsimp only at H
    have A5:=ak_ A50;clear A50;have c6b0:=eq_true (of_decide_eq_true (by first|(with_reducible assumption)|assumption):1≤(a0.size:Int))
    replace H:=Option.bind_eq_some_iff.mp H;obtain⟨aC,A70,H⟩:=H;try dsimp only at H
    have A7:=ak_ A70;clear A70;by_cases c8:aB.size+aC.size≤9223372036854775807
    ·rw [if_pos c8] at H
     have c8b0:=eq_true c8;have c8b1:decide (aB.size+aC.size≤9223372036854775807)=true:=decide_eq_true c8;try have aN:(9223372036854775807<aB.size+aC.size)=False:=eq_false (Nat.not_lt.2 c8)
     (try (have aO:=aN;simp only [ByteArray.size_append,sz1_,sz2_,sz3_] at aO))
     obtain rfl:=Option.some.inj H
     go_enter Tryz.func31,Tryz.ntmps31
     try go_wp2
     replace HB:=ak_ (below_drew1 HB.out);refine start_ (n:=8) (S:=fun w'=>True) (ds:=[]) (bmp 8 0) (by kernel_rfl) rfl rfl trivial (fun hHeld=>?_);refine with_tabW i7_title.tab3 i7_title.bits3 (fun HT_ HW_=>?_)
     generalize w.drew=w9 at HB hHeld ⊢
     iterate 2 (refine pu_ HT_ ?_)
     refine pg_ 3 (bm 8 11) HT_ ?_;refine pg_ 4 (bm 8 27) HT_ ?_;refine one_ (i:=2) (N:=some 7) (bmp 8 5) rfl rfl (one_of HT_.out (by kernel_rfl)) (by decide) (fun K hK=>?_)
     refine goes_ Tryz.func33 (by kernel_rfl) rfl #[.string (a0.extract 0 1)] (by rfl) rfl rfl (by(try simp only [List.map_toArray,List.map_cons,List.map_nil]);first|done|rfl|(simp only [List.length_drop,List.length_take];rfl)) ?_
     with_reducible refine(i7_great.calls (a0.extract 0 1) aB _ A5.out).mono ?_
     rintro e w10 ⟨rfl,hb⟩;refine⟨_,rfl,?_⟩;replace HB:=ak_ (below_step hb_ hb)
     (try clear hb)
     (try clear hb2)
     (try clear hk)
     (try clear hi)
     refine hK.out _ _ trivial (fun hHeld=>?_);clear hK K;refine norm_ (a':=?_) ?_ ?_
     rotate_left
     ·show Act.put _ (some 7) _=_
      simp only [Act.put,List.setIfInBounds_toArray,List.set_cons_zero,List.set_cons_succ,i64_w,i32_w];rfl
     refine one_ (i:=5) (N:=some 10) (bmp 8 6) rfl rfl (one_of HT_.out (by kernel_rfl)) (by decide) (fun K hK=>?_)
     refine goes_ Tryz.func29 (by kernel_rfl) rfl #[.string (a0.extract 1 a0.size)] (by rfl) rfl rfl (by(try simp only [List.map_toArray,List.map_cons,List.map_nil]);first|done|rfl|(simp only [List.length_drop,List.length_take];rfl)) ?_
     with_reducible refine(i7_Small.calls (a0.extract 1 a0.size) aC _ A7.out).mono ?_
     rintro e w11 ⟨rfl,hb⟩;refine⟨_,rfl,?_⟩;replace HB:=ak_ (below_step hb_ hb)
     (try clear hb)
     (try clear hb2)
     (try clear hk)
     (try clear hi)
     refine hK.out _ _ trivial (fun hHeld=>?_);clear hK K;refine norm_ (a':=?_) ?_ ?_
     rotate_left
     ·show Act.put _ (some 10) _=_
      simp only [Act.put,List.setIfInBounds_toArray,List.set_cons_zero,List.set_cons_succ,i64_w,i32_w];rfl
     iterate 2 (refine pu_ HT_ ?_)
     refine dg_ HT_ ?_;try go_wp2
     go_ret
     exact⟨by first|rfl|(simp [errW_none,errW_some] <;> rfl)|(simp [*,errW_none,errW_some] <;> rfl),by repeat (first|(with_reducible first|exact HB.out|apply below_alloc|apply pw_below_drewN|apply below_drew1)|exact HB.out)⟩
    ·rw [if_neg c8] at H
     exact absurd H (by simp)
   ·rw [if_neg c4] at H
    exact absurd H (by simp)
  ·rw [if_neg c3] at H
   exact absurd H (by simp)
def idiomref01_Digit.f (a0:Int):Option (Bool):=if a0≥48 then(some (decide (a0≤57))) else(some false)
set_option maxHeartbeats 8000000 in
set_option maxRecDepth 100000 in
theorem idiomref01_Digit.calls (a0:Int) (r:Bool) (w:World) (h:idiomref01_Digit.f a0=some r):
 Calls Tryz.prog 65 #[.int .u8 a0] w fun e w'=>e=.returned (.bool r)∧Drawn0 w w':=by
 have H:(if a0≥48 then(some (decide (a0≤57))) else(some false))=some r:=h;clear h;by_cases c2:a0≥48
 ·rw [if_pos c2] at H
  have aG:decide (48≤a0)=true:=decide_eq_true c2;clear c2;obtain rfl:=Option.some.inj H
  go_enter Tryz.func65,Tryz.ntmps65
  go_wp2
  go_ret
  exact⟨by first|rfl|(simp;done)|(simp [*];done),by repeat (first|exact Drawn0.refl _|apply Drawn0.step)⟩
 ·rw [if_neg c2] at H
  have aG:decide (48≤a0)=false:=decide_eq_false c2;clear c2;obtain rfl:=Option.some.inj H
  go_enter Tryz.func65,Tryz.ntmps65
  go_wp2
  go_ret
  exact⟨by first|rfl|(simp;done)|(simp [*];done),by repeat (first|exact Drawn0.refl _|apply Drawn0.step)⟩
def i7_region.f (k:Nat) (a0:ByteArray):Option (Bool):=(i7_letters.f k a0 2).bind fun aF=>(if aF=true then(some true) else(if (a0.size:Int)=3 then(if 0<(a0.size:Int) then((idiomref01_Digit.f (bt a0 0)).bind fun aE=>(if aE=true then(if 1<(a0.size:Int) then((idiomref01_Digit.f (bt a0 1)).bind fun aD=>(if aD=true then(if 2<(a0.size:Int) then((idiomref01_Digit.f (bt a0 2)).bind fun aA=>(some aA)) else(none)) else(some false))) else(none)) else(some false))) else(none)) else(some false)))
set_option maxHeartbeats 8000000 in
set_option maxRecDepth 100000 in
theorem i7_region.calls (k:Nat) (a0:ByteArray) (r:Bool) (w:World) (h:i7_region.f k a0=some r):
 Calls Tryz.prog 32 #[.string a0] w fun e w'=>e=.returned (.bool r)∧Drawn0 w w':=by
 have H:((i7_letters.f k a0 2).bind fun aF=>(if aF=true then(some true) else(if (a0.size:Int)=3 then(if 0<(a0.size:Int) then((idiomref01_Digit.f (bt a0 0)).bind fun aE=>(if aE=true then(if 1<(a0.size:Int) then((idiomref01_Digit.f (bt a0 1)).bind fun aD=>(if aD=true then(if 2<(a0.size:Int) then((idiomref01_Digit.f (bt a0 2)).bind fun aA=>(some aA)) else(none)) else(some false))) else(none)) else(some false))) else(none)) else(some false))))=some r:=h;clear h;replace H:=Option.bind_eq_some_iff.mp H;obtain⟨aF,A20,H⟩:=H;try dsimp only at H
 have A2:=ak_ A20;clear A20;by_cases c3:aF=true
 ·subst c3
  have H1:(some true)=some r:=by rw [if_pos rfl] at H;exact H
  clear H;have H:=H1;clear H1;obtain rfl:=Option.some.inj H
  go_enter Tryz.func32,Tryz.ntmps32
  go_wp2_with (first|((with_reducible refine gate_callee (f:=64) rfl ?_);refine gb_ (some 4) Tryz.func64 #[.string a0,.int .i64 2] ?_;(with_reducible refine(i7_letters.calls k a0 2 true _ A2.out).mono ?_);rintro e w' ⟨rfl,⟨nd,rfl⟩⟩;refine⟨_,rfl,?_⟩))
  go_ret
  exact⟨by first|rfl|(simp;done)|(simp [*];done),by repeat (first|exact Drawn0.refl _|apply Drawn0.step)⟩
 ·replace c3:=Bool.eq_false_iff.mpr c3
  subst c3;have H1:(if (a0.size:Int)=3 then(if 0<(a0.size:Int) then((idiomref01_Digit.f (bt a0 0)).bind fun aE=>(if aE=true then(if 1<(a0.size:Int) then((idiomref01_Digit.f (bt a0 1)).bind fun aD=>(if aD=true then(if 2<(a0.size:Int) then((idiomref01_Digit.f (bt a0 2)).bind fun aA=>(some aA)) else(none)) else(some false))) else(none)) else(some false))) else(none)) else(some false))=some r:=by rw [if_neg (show ¬ (false=true) by decide)] at H;exact H
  clear H;have H:=H1;clear H1;by_cases c4:(a0.size:Int)=3
  ·rw [if_pos c4] at H
   have aH:((a0.size:Int)==3)=true:=beq_iff_eq.mpr c4;have aI:((a0.size:Int) != 3)=false:=bne_eq_false_iff_eq.mpr c4;clear c4;by_cases c5:0<(a0.size:Int)
   ·rw [if_pos c5] at H
    have c5b0:decide (0<(a0.size:Int))=true:=decide_eq_true c5;have c5b1:decide (0<a0.size)=true:=decide_eq_true (by omega)
    clear c5;replace H:=Option.bind_eq_some_iff.mp H;obtain⟨aE,A70,H⟩:=H;try dsimp only at H
    have A7:=ak_ A70;clear A70;by_cases c8:aE=true
    ·subst c8
     have H1:(if 1<(a0.size:Int) then((idiomref01_Digit.f (bt a0 1)).bind fun aD=>(if aD=true then(if 2<(a0.size:Int) then((idiomref01_Digit.f (bt a0 2)).bind fun aA=>(some aA)) else(none)) else(some false))) else(none))=some r:=by rw [if_pos rfl] at H;exact H
     clear H;have H:=H1;clear H1;by_cases c9:1<(a0.size:Int)
     ·rw [if_pos c9] at H
      have c9b0:decide (1<(a0.size:Int))=true:=decide_eq_true c9;have c9b1:decide (1<a0.size)=true:=decide_eq_true (by omega)
      clear c9;replace H:=Option.bind_eq_some_iff.mp H;obtain⟨aD,aJ,H⟩:=H;try dsimp only at H
      have A11:=ak_ aJ;clear aJ;by_cases c12:aD=true
      ·subst c12
       have H1:(if 2<(a0.size:Int) then((idiomref01_Digit.f (bt a0 2)).bind fun aA=>(some aA)) else(none))=some r:=by rw [if_pos rfl] at H;exact H
       clear H;have H:=H1;clear H1;by_cases c13:2<(a0.size:Int)
       ·rw [if_pos c13] at H
        have c13b0:decide (2<(a0.size:Int))=true:=decide_eq_true c13;have c13b1:decide (2<a0.size)=true:=decide_eq_true (by omega)
        clear c13;replace H:=Option.bind_eq_some_iff.mp H;obtain⟨aA,aK,H⟩:=H;try dsimp only at H
        have A15:=ak_ aK;clear aK;obtain rfl:=Option.some.inj H
        go_enter Tryz.func32,Tryz.ntmps32
        go_wp2_with (first|((with_reducible refine gate_callee (f:=64) rfl ?_);refine gb_ (some 4) Tryz.func64 #[.string a0,.int .i64 2] ?_;(with_reducible refine(i7_letters.calls k a0 2 false _ A2.out).mono ?_);rintro e w' ⟨rfl,⟨nd,rfl⟩⟩;refine⟨_,rfl,?_⟩;have p6:0≤(0:Int):=(by omega);have q6:0<a0.size:=(by have:(0:Int)<(a0.size:Int):=of_decide_eq_true (by first|(with_reducible assumption)|assumption);omega);have hx6:∀ h:0<a0.size,((a0[0]'h).toNat:Int)=bt a0 0:=bt_at a0 0;clear p6;have qi6:(0<(a0.size:Int))=True:=eq_true (of_decide_eq_true (by first|(with_reducible assumption)|assumption));replace q6:=eq_true q6)|(go_at_call 65;(with_reducible refine(idiomref01_Digit.calls (bt a0 0) true _ A7.out).mono ?_);rintro e w' ⟨rfl,⟨nd,rfl⟩⟩;have p10:0≤(1:Int):=(by omega);have q10:1<a0.size:=(by have:(1:Int)<(a0.size:Int):=of_decide_eq_true (by first|(with_reducible assumption)|assumption);omega);have aP:∀ h:1<a0.size,((a0[1]'h).toNat:Int)=bt a0 1:=bt_at a0 1;clear p10;have qi10:(1<(a0.size:Int))=True:=eq_true (of_decide_eq_true (by first|(with_reducible assumption)|assumption));replace q10:=eq_true q10)|(go_at_call 65;(with_reducible refine(idiomref01_Digit.calls (bt a0 1) true _ A11.out).mono ?_);rintro e w' ⟨rfl,⟨nd,rfl⟩⟩;have p14:0≤(2:Int):=(by omega);have q14:2<a0.size:=(by have:(2:Int)<(a0.size:Int):=of_decide_eq_true (by first|(with_reducible assumption)|assumption);omega);have hx14:∀ h:2<a0.size,((a0[2]'h).toNat:Int)=bt a0 2:=bt_at a0 2;clear p14;have qi14:(2<(a0.size:Int))=True:=eq_true (of_decide_eq_true (by first|(with_reducible assumption)|assumption));replace q14:=eq_true q14)|(go_at_call 65;(with_reducible refine(idiomref01_Digit.calls (bt a0 2) aA _ A15.out).mono ?_);rintro e w' ⟨rfl,⟨nd,rfl⟩⟩))
        go_ret
        exact⟨by first|rfl|(simp;done)|(simp [*];done),by repeat (first|exact Drawn0.refl _|apply Drawn0.step)⟩
       ·rw [if_neg c13] at H
        exact absurd H (by simp)
      ·replace c12:=Bool.eq_false_iff.mpr c12
       subst c12;have H1:(some false)=some r:=by rw [if_neg (show ¬ (false=true) by decide)] at H;exact H
       clear H;have H:=H1;clear H1;obtain rfl:=Option.some.inj H
       go_enter Tryz.func32,Tryz.ntmps32
       go_wp2_with (first|((with_reducible refine gate_callee (f:=64) rfl ?_);refine gb_ (some 4) Tryz.func64 #[.string a0,.int .i64 2] ?_;(with_reducible refine(i7_letters.calls k a0 2 false _ A2.out).mono ?_);rintro e w' ⟨rfl,⟨nd,rfl⟩⟩;refine⟨_,rfl,?_⟩;have p6:0≤(0:Int):=(by omega);have q6:0<a0.size:=(by have:(0:Int)<(a0.size:Int):=of_decide_eq_true (by first|(with_reducible assumption)|assumption);omega);have hx6:∀ h:0<a0.size,((a0[0]'h).toNat:Int)=bt a0 0:=bt_at a0 0;clear p6;have qi6:(0<(a0.size:Int))=True:=eq_true (of_decide_eq_true (by first|(with_reducible assumption)|assumption));replace q6:=eq_true q6)|(go_at_call 65;(with_reducible refine(idiomref01_Digit.calls (bt a0 0) true _ A7.out).mono ?_);rintro e w' ⟨rfl,⟨nd,rfl⟩⟩;have p10:0≤(1:Int):=(by omega);have q10:1<a0.size:=(by have:(1:Int)<(a0.size:Int):=of_decide_eq_true (by first|(with_reducible assumption)|assumption);omega);have aP:∀ h:1<a0.size,((a0[1]'h).toNat:Int)=bt a0 1:=bt_at a0 1;clear p10;have qi10:(1<(a0.size:Int))=True:=eq_true (of_decide_eq_true (by first|(with_reducible assumption)|assumption));replace q10:=eq_true q10)|(go_at_call 65;(with_reducible refine(idiomref01_Digit.calls (bt a0 1) false _ A11.out).mono ?_);rintro e w' ⟨rfl,⟨nd,rfl⟩⟩))
       go_ret
       exact⟨by first|rfl|(simp;done)|(simp [*];done),by repeat (first|exact Drawn0.refl _|apply Drawn0.step)⟩
     ·rw [if_neg c9] at H
      exact absurd H (by simp)
    ·replace c8:=Bool.eq_false_iff.mpr c8
     subst c8;have H1:(some false)=some r:=by rw [if_neg (show ¬ (false=true) by decide)] at H;exact H
     clear H;have H:=H1;clear H1;obtain rfl:=Option.some.inj H
     go_enter Tryz.func32,Tryz.ntmps32
     go_wp2_with (first|((with_reducible refine gate_callee (f:=64) rfl ?_);refine gb_ (some 4) Tryz.func64 #[.string a0,.int .i64 2] ?_;(with_reducible refine(i7_letters.calls k a0 2 false _ A2.out).mono ?_);rintro e w' ⟨rfl,⟨nd,rfl⟩⟩;refine⟨_,rfl,?_⟩;have p6:0≤(0:Int):=(by omega);have q6:0<a0.size:=(by have:(0:Int)<(a0.size:Int):=of_decide_eq_true (by first|(with_reducible assumption)|assumption);omega);have hx6:∀ h:0<a0.size,((a0[0]'h).toNat:Int)=bt a0 0:=bt_at a0 0;clear p6;have qi6:(0<(a0.size:Int))=True:=eq_true (of_decide_eq_true (by first|(with_reducible assumption)|assumption));replace q6:=eq_true q6)|(go_at_call 65;(with_reducible refine(idiomref01_Digit.calls (bt a0 0) false _ A7.out).mono ?_);rintro e w' ⟨rfl,⟨nd,rfl⟩⟩))
     go_ret
     exact⟨by first|rfl|(simp;done)|(simp [*];done),by repeat (first|exact Drawn0.refl _|apply Drawn0.step)⟩
   ·rw [if_neg c5] at H
    exact absurd H (by simp)
  ·rw [if_neg c4] at H
   have aH:((a0.size:Int)==3)=false:=beq_eq_false_iff_ne.mpr c4;have aI:((a0.size:Int) != 3)=true:=bne_iff_ne.mpr c4;obtain rfl:=Option.some.inj H
   go_enter Tryz.func32,Tryz.ntmps32
   go_wp2_with (first|((with_reducible refine gate_callee (f:=64) rfl ?_);refine gb_ (some 4) Tryz.func64 #[.string a0,.int .i64 2] ?_;(with_reducible refine(i7_letters.calls k a0 2 false _ A2.out).mono ?_);rintro e w' ⟨rfl,⟨nd,rfl⟩⟩;refine⟨_,rfl,?_⟩))
   go_ret
   exact⟨by first|rfl|(simp;done)|(simp [*];done),by repeat (first|exact Drawn0.refl _|apply Drawn0.step)⟩
set_option maxRecDepth 100000 in
theorem cloneKeyZero_ (a:Addr) (c:Nat) (w:World):
 Calls Tryz.prog 86 #[.slice (some a) 0 c] w fun e w'=>∃ v',e=.returned v'∧w'.ownsRow w.heap.size 39 2 v' 0 []∧Below w.heap.size w w':=by
 have hinfo:(Tryz.prog.info? 39).map (fun i=>(i.zero,i.size,i.bytes))=some (some (.agg #[.string ByteArray.empty,.string ByteArray.empty]),2,32):=by kernel_rfl
 obtain⟨i0,hi,hq⟩:=Option.map_eq_some_iff.1 hinfo;simp only [Prod.mk.injEq] at hq;have qe:∀ (w:World) (a:Option Addr) (n c n' c':Nat),(binOp .eql 23 (.slice a n c) (.slice none n' c')).run Tryz.prog w=.ok (.bool a.isNone) w:=fun w a n c n' c'=>Lib.run_eql_slice_nil w _ _ a n c n' c' Tryz.underlying23
 go_enter Tryz.func86,Tryz.ntmps86
 go_wp2_with (at_builtin;refine wpList_append_own _ rfl _ _ 23 rfl w.heap.size 39 i0 (.agg #[.string ByteArray.empty,.string ByteArray.empty]) 2 32 Tryz.underlying23 hi hq.1 hq.2.1 hq.2.2 rfl (by decide) _ _ _ rfl (World.ownsRow_made w #[] 0 (Nat.le_refl _) (Nat.zero_le _) rfl) a 0 c [] rfl rfl (by intro j u hj;simp at hj) (by intro u hu;cases hu) (by unfold maxLen;omega) (by omega) (by simp) ?_)
 intro v' w1 hown hgrow hnil
 go_wp2
 go_ret
 refine⟨v',rfl,by simpa using hown,?_⟩
 exact((Below.refl _ w).alloc (Nat.le_refl _) _).grown hgrow (by simp) (by intro k hk;simp [Value.ownBlock] at hk;omega)
def api_Key_86.f (l0:List S39):Option (List S39):=if l0.length≤4398046511104 then some l0 else none
theorem api_Key_86.calls (A0:Option Addr) (c0:Nat) (l0:List S39) (r:List S39) (w:World) (hr0:Kd.C k39 w A0 l0.length l0) (hc0:l0.length≤c0) (h:api_Key_86.f l0=some r):
 Calls Tryz.prog 86 #[.slice A0 l0.length c0] w fun e w'=>∃ v0_:Value,e=.returned (v0_)∧Kd.R k39 39 w' w.heap.size (fun _=>True) v0_ r∧Below w.heap.size w w':=by
 unfold api_Key_86.f at h;by_cases h1:l0.length≤4398046511104
 ·rw [if_pos h1] at h
  obtain rfl:=Option.some.inj h;have hinfo:(Tryz.prog.info? 39).map (fun i=>(i.zero,i.size,i.bytes))=some (some (.agg #[.string ByteArray.empty,.string ByteArray.empty]),2,32):=by kernel_rfl
  obtain⟨i0,hi,hq⟩:=Option.map_eq_some_iff.1 hinfo;simp only [Prod.mk.injEq] at hq;have hz23:∀ w,(Go.sizeOf 39).run Tryz.prog w=.ok 2 w:=Tryz.sizeOf39;have hlay:=fun b off n c news w=>AnyE.slices_Clone Tryz.layCloneKey i0 _ 2 32 hi hq.1 hq.2.1 hq.2.2 rfl (by omega) hz23 b off n c news w
  cases A0 with
  | none=>
   have hl:l0=[]:=by
    rcases Nat.eq_zero_or_pos l0.length with h0|h0
    ·exact List.length_eq_zero_iff.1 h0
    ·obtain ⟨_,_,e,_⟩:=keys_at_ hr0 h0;cases e
   subst hl;refine(AnyE.slices_Clone_nil Tryz.layCloneKey _ c0 w).mono ?_;rintro e w' ⟨rfl,rfl⟩;exact⟨_,rfl,Kd.R_nil _ _ _ _ _,Below.refl _ _⟩
  | some a=>
   by_cases h0:0<l0.length
   ·obtain ⟨bk,o,e,hlt,hc⟩:=keys_at_ hr0 h0
    obtain rfl:=Option.some.inj e;refine(hlay bk o l0.length c0 (flatKeys_ l0) w (flatKeys_len l0) (by simp only [maxLen];omega) (by omega) hc (fun u hu=>?_)).mono ?_
    ·obtain ⟨x,_,hx⟩:=List.mem_flatMap.1 hu
     simp only [encKey_,List.mem_cons,List.not_mem_nil,or_false] at hx;rcases hx with rfl|rfl <;> rfl
    ·rintro e w' ⟨v,rfl,ho,_,hb⟩
     exact⟨v,rfl,keys_own_ ho (fun _ _=>trivial),hb⟩
   ·have hl:l0=[]:=by cases l0 with|nil=>rfl|cons x xs=>simp at h0
    subst hl;refine(cloneKeyZero_ a c0 w).mono ?_;rintro e w' ⟨v,rfl,ho,hb⟩;exact⟨v,rfl,keys_own_ ho (fun _ _=>trivial),hb⟩
 ·rw [if_neg h1] at h;cases h
def slices_Clone_string_string.f (l0:List ByteArray):Option (List ByteArray):=if l0.length≤8796093022208 then some l0 else none
theorem slices_Clone_string_string.calls (A0:Option Addr) (c0:Nat) (l0:List ByteArray) (r:List ByteArray) (w:World) (hr0:Kd.C Kd.string w A0 l0.length l0) (hc0:l0.length≤c0) (h:slices_Clone_string_string.f l0=some r):
 Calls Tryz.prog 85 #[.slice A0 l0.length c0] w fun e w'=>∃ v0_:Value,e=.returned (v0_)∧Kd.R Kd.string 9 w' w.heap.size (fun _=>True) v0_ r∧Below w.heap.size w w':=by
 unfold slices_Clone_string_string.f at h;by_cases h1:l0.length≤8796093022208
 ·rw [if_pos h1] at h
  obtain rfl:=Option.some.inj h;by_cases h0:0<l0.length
  ·obtain ⟨bk,o,rfl,hlt,hc⟩:=strings_at_ hr0 h0
   refine(Tryz.slices_Clone_string bk o l0.length c0 l0 w (Nat.le_refl _) (by omega) hc).mono ?_
   rintro e w' ⟨v,rfl,ho,_,hb⟩;rw [List.take_length] at ho;exact⟨v,rfl,Kd.R_of_own (enc:=Value.string) (h1:=fun _=>rfl) ho (fun _ _=>trivial),hb⟩
  ·have hl:l0=[]:=by cases l0 with|nil=>rfl|cons x xs=>simp at h0
   subst hl;cases A0 with
   |none=>
    refine(Tryz.slices_Clone_string_nil _ c0 w).mono ?_;rintro e w' ⟨rfl,rfl⟩;exact⟨_,rfl,Kd.R_nil _ _ _ _ _,Below.refl _ _⟩
   |some a=>
    refine(Tryz.slices_Clone_string_zero a c0 w).mono ?_;rintro e w' ⟨v,rfl,ho,_,hb⟩;exact⟨v,rfl,Kd.R_of_own (enc:=Value.string) (h1:=fun _=>rfl) ho (fun _ _=>trivial),hb⟩
 ·rw [if_neg h1] at h;cases h
end Go.Proofs.YtphjhbppjakocaaGreatDoor.PTag
