/- Several texts of this claim in one: RowTag, RowPrs; conditions: those that each theorem states. -/
import Derived.Test.YtphjhbppjakocaaGreatDoorRows
import Derived.Test.YtphjhbppjakocaaGreatDoorPU16
import Derived.WalkKit
import Derived.ProofKit
import Derived.OpenShut
import Derived.SliceStrings
import Derived.Deep.SlicePairs
import Derived.Deep.Fields
import Derived.Lib.SmallJoins
set_option linter.unusedVariables false
set_option linter.unusedSimpArgs false
namespace Go.Proofs.YtphjhbppjakocaaGreatDoor.RowTag
open Go.ChangeShapes Go.WideShapes Go.ChangeAt Go.RowKit Go.Joins Go.Deep
open Go.Proofs.YtphjhbppjakocaaGreatDoorW.PrintWords Go.Proofs.YtphjhbppjakocaaGreatDoor.PTag
section
variable {H:Type} {enc:TypeId×Value→H} {P:Program} {w:World} {base:Nat} {spare:Nat→Bool} {held:Bool}
theorem open_agg5 {r:Reach} {b0:Nat} {t:TypeId} {f0 f1 f2 f3 f4:Field} {v:Value} {d:DataW H} {p:List MemPlace} (hs:P.underlying t=some (.struct #[f0,f1,f2,f3,f4])) (hone:oneCellFields P #[f0,f1,f2,f3,f4]=true) (hC:P.cellsOf t=5)
 (hv:Value.okWide P w r b0 t v) (h:DataW.Trod enc P w base spare held t v d p):
 ∃ (v0 v1 v2 v3 v4:Value) (y0 y1 y2 y3 y4:DataW H×List MemPlace) (n:Nat),v=.agg #[v0,v1,v2,v3,v4]∧d=.agg [y0.1,y1.1,y2.1,y3.1,y4.1]∧p=y0.2++(y1.2++(y2.2++(y3.2++y4.2)))∧
  DataW.trod enc P w base spare held n f0.type [v0]=some y0∧DataW.trod enc P w base spare held n f1.type [v1]=some y1∧DataW.trod enc P w base spare held n f2.type [v2]=some y2∧DataW.trod enc P w base spare held n f3.type [v3]=some y3∧DataW.trod enc P w base spare held n f4.type [v4]=some y4:=by
 obtain⟨cs,rfl,hsz⟩:=okWide_struct hs hv;obtain⟨l⟩:=cs
 match l,hsz.trans hC with
 | [c0,c1,c2,c3,c4],_=>
  obtain⟨fuel,hf⟩:=h;obtain⟨xs,n,_,hx,_,hlen,hg⟩:=DataW.trod_struct hs hf;obtain⟨o0,k0⟩:=hone_of hone 0 f0 rfl;obtain⟨o1,k1⟩:=hone_of hone 1 f1 rfl;obtain⟨o2,k2⟩:=hone_of hone 2 f2 rfl;obtain⟨o3,k3⟩:=hone_of hone 3 f3 rfl;obtain⟨o4,k4⟩:=hone_of hone 4 f4 rfl
  match xs,hlen with
  |[y0,y1,y2,y3,y4],_=>
   simp only [Prod.mk.injEq] at hx;exact⟨c0,c1,c2,c3,c4,y0,y1,y2,y3,y4,n,rfl,by simpa using hx.1,by simpa using hx.2,by simpa [Value.cells,o0,k0] using hg 0 f0 rfl,by simpa [Value.cells,o1,k1] using hg 1 f1 rfl,by simpa [Value.cells,o2,k2] using hg 2 f2 rfl,by simpa [Value.cells,o3,k3] using hg 3 f3 rfl,by simpa [Value.cells,o4,k4] using hg 4 f4 rfl⟩
end
section
variable {H:Type}
theorem bulk_pos (d:DataW H):1≤Rows.uptoBulk d:=by
 cases d <;> (try simp only [Rows.uptoBulk]) <;> (try omega)
 rename_i l
 cases l <;> simp only [Rows.uptoBulk] <;> omega
theorem bulk_len:∀ ds:List (DataW H),ds.length≤Rows.uptoBulkAll ds
 |[]=>Nat.zero_le _
 |d :: r=>by
  have h1:=bulk_pos d;have h2:=bulk_len r;simp only [Rows.uptoBulkAll,List.length_cons];omega
theorem bulk_mem:∀ {ds:List (DataW H)} {d:DataW H},d ∈ ds→Rows.uptoBulk d≤Rows.uptoBulkAll ds
 |e :: r,d,h=>by
  simp only [Rows.uptoBulkAll];rcases List.mem_cons.1 h with rfl|h1
  ·omega
  ·have:=bulk_mem h1;omega
theorem bulk_str (s:ByteArray):Rows.uptoBulk (.lit (.string s.data.toList):DataW H)=s.size+1:=by
 simp only [Rows.uptoBulk];rw [data_length]
end
section
variable {H:Type} {enc:TypeId×Value→H} {W:World} {base:Nat}
theorem cells_string:Tryz.prog.cellsOf 9=1:=by kernel_rfl
theorem open_texts {fuel:Nat} {v:Value} {y:DataW H×List MemPlace} (h:DataW.trod enc Tryz.prog W base (fun _=>true) true fuel 22 [v]=some y):
 ∃ (A:Option Addr) (c:Nat) (V:List ByteArray),v=.slice A V.length c∧V.length≤c∧Kd.C Kd.string W A V.length V∧(Rows.uptoBulk y.1≤1048576→V.length≤1048576∧∀ x ∈ V,x.size≤1048576):=by
 rcases open_strings Tryz.underlying22 Tryz.underlying9 cells_string h with ⟨hcs,_⟩|⟨a,l,c,ss,hcs,_,hl,hm,hss,hx,hcell,_⟩
 ·obtain rfl:=(List.cons.inj hcs).1
  exact⟨none,0,[],rfl,by simp,Kd.C_of_reads (d:=ByteArray.empty) (h1:=fun _=>rfl) ⟨rfl,by simp,fun h=>absurd h (by simp)⟩,fun _=>⟨by simp,fun _ hx=>by cases hx⟩⟩
 ·obtain rfl:=(List.cons.inj hcs).1
  rw [if_pos rfl] at hss;have htl:(ss.take l).length=l:=by rw [List.length_take];omega
  have hm':l≤9223372036854775807:=by unfold maxLen at hm;omega
  refine⟨some a,c,ss.take l,by rw [htl],by rw [htl];exact hl,?_,fun hb=>?_⟩
  ·rw [htl]
   refine Kd.C_of_reads (d:=ByteArray.empty) (h1:=fun _=>rfl) ⟨htl,hm',fun h=>⟨a,rfl,fun j hj=>?_⟩⟩;rw [hcell j (by omega)]
   simp only [List.getD_eq_getElem?_getD,List.getElem?_take,if_pos hj]
  ·have hd:=congrArg Prod.fst hx
   simp only at hd;rw [hd] at hb;simp only [Rows.uptoBulk] at hb;have h1:=bulk_len (strs (ss.take l):List (DataW H));have h2:(strs (ss.take l):List (DataW H)).length=(ss.take l).length:=by simp [strs]
   refine⟨by omega,fun x hx=>?_⟩
   have h3:=bulk_mem (ds:=(strs (ss.take l):List (DataW H))) (d:=.lit (.string x.data.toList)) (List.mem_map.2 ⟨x,hx,rfl⟩);rw [bulk_str] at h3;omega
theorem cells_key:Tryz.prog.cellsOf 39=2:=by kernel_rfl
def strV (v:Value):ByteArray:=match v with|.string s=>s|_=>ByteArray.empty
theorem open_keys {fuel:Nat} {v:Value} {y:DataW H×List MemPlace} (h:DataW.trod enc Tryz.prog W base (fun _=>true) true fuel 23 [v]=some y):
 ∃ (A:Option Addr) (c:Nat) (K:List Pl.Ke),v=.slice A K.length c∧K.length≤c∧Kd.C k39 W A K.length K∧(Rows.uptoBulk y.1≤1048576→K.length≤1048576∧∀ x ∈ K,x.f0.size≤1048576∧x.f1.size≤1048576):=by
 rcases open_slice_pairs Tryz.underlying23 Tryz.underlying39 cells_key rfl rfl cells_string cells_string h with ⟨hcs,_⟩|⟨a,l,c,m,n,V0,V1,D0,D1,P0,P1,hcs,_,hl,hm,hmm,hx,hall⟩
 ·obtain rfl:=(List.cons.inj hcs).1
  exact⟨none,0,[],rfl,by simp,⟨rfl,by simp,fun h=>absurd h (by simp)⟩,fun _=>⟨by simp,fun _ hx=>by cases hx⟩⟩
 ·obtain rfl:=(List.cons.inj hcs).1
  rw [if_pos rfl] at hmm;have hm':l≤9223372036854775807:=by unfold maxLen at hm;omega
  have each:∀ i,i<l→W.cell? (a.add (i*2))=some (.string (strV (V0 i)))∧W.cell? (a.add (i*2+1))=some (.string (strV (V1 i)))∧D0 i=.lit (.string (strV (V0 i)).data.toList)∧D1 i=.lit (.string (strV (V1 i)).data.toList):=by
   intro i hi;obtain⟨h0,h1,g0,g1⟩:=hall i (by omega)
   obtain⟨s0,e0,x0,_⟩:=DataW.trod_string Tryz.underlying9 g0;obtain⟨s1,e1,x1,_⟩:=DataW.trod_string Tryz.underlying9 g1;have e0':V0 i=.string s0:=(List.cons.inj e0).1;have e1':V1 i=.string s1:=(List.cons.inj e1).1;rw [e0'] at h0;rw [e1'] at h1;rw [e0',e1'];exact⟨h0,h1,congrArg Prod.fst x0,congrArg Prod.fst x1⟩
  have hlen:((List.range l).map fun i=>(⟨strV (V0 i),strV (V1 i)⟩:Pl.Ke)).length=l:=by simp
  refine⟨some a,c,(List.range l).map fun i=>⟨strV (V0 i),strV (V1 i)⟩,by rw [hlen],by rw [hlen];exact hl,?_,fun hb=>?_⟩
  ·rw [hlen]
   refine⟨hlen,hm',fun h=>⟨a,rfl,fun j p hp=>?_⟩⟩;obtain⟨hj,rfl⟩:j<l∧(⟨strV (V0 j),strV (V1 j)⟩:Pl.Ke)=p:=by
    rw [List.getElem?_map] at hp;by_cases hj:j<l
    ·rw [List.getElem?_range hj] at hp;exact⟨hj,Option.some.inj hp⟩
    ·rw [List.getElem?_eq_none (by simp;omega)] at hp;cases hp
   obtain⟨h0,h1,_,_⟩:=each j hj;refine⟨[.string (strV (V0 j)),.string (strV (V1 j))],rfl,k39_mk W ⟨strV (V0 j),strV (V1 j)⟩,fun i u hu=>?_⟩
   match i,hu with
   |0,hu=>obtain rfl:=Option.some.inj hu;exact h0
   |1,hu=>obtain rfl:=Option.some.inj hu;exact h1
  ·have hd:=congrArg Prod.fst hx
   simp only at hd;rw [hd] at hb;simp only [Rows.uptoBulk] at hb;have h1:=bulk_len ((List.range l).map fun i=>(.agg [D0 i,D1 i]:DataW H));rw [List.length_map,List.length_range] at h1;refine⟨by rw [hlen];omega,fun x hx=>?_⟩
   obtain⟨i,hi,rfl⟩:=List.mem_map.1 hx;have hi':=List.mem_range.1 hi;obtain⟨_,_,e0,e1⟩:=each i hi';have h3:=bulk_mem (ds:=(List.range l).map fun i=>(.agg [D0 i,D1 i]:DataW H)) (d:=.agg [D0 i,D1 i]) (List.mem_map.2 ⟨i,hi,rfl⟩);rw [e0,e1] at h3;simp only [Rows.uptoBulk,Rows.uptoBulkAll,data_length] at h3;exact⟨by show(strV (V0 i)).size≤_;omega,by show(strV (V1 i)).size≤_;omega⟩
theorem cells_tag:Tryz.prog.cellsOf 25=5:=by kernel_rfl
set_option maxRecDepth 100000 in
theorem open_tag {b0:Nat} {r:Reach} {v:Value} {d:DataW H} {p:List MemPlace} (hv:Value.okWide Tryz.prog W r b0 25 v) (h:DataW.Trod enc Tryz.prog W base (fun _=>true) true 25 v d p):
 ∃ (l s rg:ByteArray) (A3:Option Addr) (c3:Nat) (V:List ByteArray) (A4:Option Addr) (c4:Nat) (K:List Pl.Ke),v=.agg #[.string l,.string s,.string rg,.slice A3 V.length c3,.slice A4 K.length c4]∧
  Kd.C Kd.string W A3 V.length V∧V.length≤c3∧Kd.C k39 W A4 K.length K∧K.length≤c4∧(Rows.uptoBulk d≤1048576→Pl.Sz l s rg V K):=by
 obtain⟨v0,v1,v2,v3,v4,y0,y1,y2,y3,y4,n,rfl,rfl,rfl,h0,h1,h2,h3,h4⟩:=open_agg5 Tryz.underlying25 (by kernel_rfl) cells_tag hv h
 obtain⟨l,e0,x0,_⟩:=DataW.trod_string Tryz.underlying9 h0;obtain⟨s,e1,x1,_⟩:=DataW.trod_string Tryz.underlying9 h1;obtain⟨rg,e2,x2,_⟩:=DataW.trod_string Tryz.underlying9 h2;obtain⟨A3,c3,V,rfl,hV,cV,bV⟩:=open_texts h3;obtain⟨A4,c4,K,rfl,hK,cK,bK⟩:=open_keys h4;obtain rfl:=(List.cons.inj e0).1;obtain rfl:=(List.cons.inj e1).1;obtain rfl:=(List.cons.inj e2).1;refine⟨l,s,rg,A3,c3,V,A4,c4,K,rfl,cV,hV,cK,hK,fun hb=>?_⟩;have q0:y0.1=.lit (.string l.data.toList):=congrArg Prod.fst x0;have q1:y1.1=.lit (.string s.data.toList):=congrArg Prod.fst x1;have q2:y2.1=.lit (.string rg.data.toList):=congrArg Prod.fst x2;rw [q0,q1,q2] at hb;simp only [Rows.uptoBulk,Rows.uptoBulkAll,data_length] at hb;have g3:=bV (by omega)
 have g4:=bK (by omega)
 exact⟨by omega,by omega,by omega,g3.1,g4.1,g3.2,g4.2⟩
end
end Go.Proofs.YtphjhbppjakocaaGreatDoor.RowTag
namespace Go.Proofs.YtphjhbppjakocaaGreatDoor.RowPrs
open Go.ChangeShapes Go.WideShapes Go.ChangeAt Go.RowKit Go.Joins Go.Deep
open Go.Proofs.YtphjhbppjakocaaGreatDoorW.PrintWords Go.Proofs.YtphjhbppjakocaaGreatDoor.PTag
section
variable {H:Type} {enc:TypeId×Value→H} {W:World} {base:Nat}
theorem cells_pair:Tryz.prog.cellsOf 45=2:=by kernel_rfl
theorem open_pairs {fuel:Nat} {v:Value} {y:DataW H×List MemPlace} (h:DataW.trod enc Tryz.prog W base (fun _=>true) true fuel 36 [v]=some y):
 ∃ (A:Option Addr) (c:Nat) (K:List S45),v=.slice A K.length c∧K.length≤c∧Kd.C k45 W A K.length K∧(Rows.uptoBulk y.1≤1048576→K.length≤1048576):=by
 rcases open_slice_pairs Tryz.underlying36 Tryz.underlying45 cells_pair rfl rfl RowTag.cells_string RowTag.cells_string h with ⟨hcs,_⟩|⟨a,l,c,m,n,V0,V1,D0,D1,P0,P1,hcs,_,hl,hm,hmm,hx,hall⟩
 ·obtain rfl:=(List.cons.inj hcs).1
  exact⟨none,0,[],rfl,by simp,⟨rfl,by simp,fun h=>absurd h (by simp)⟩,fun _=>by simp⟩
 ·obtain rfl:=(List.cons.inj hcs).1
  rw [if_pos rfl] at hmm;have hm':l≤9223372036854775807:=by unfold maxLen at hm;omega
  have each:∀ i,i<l→W.cell? (a.add (i*2))=some (.string (RowTag.strV (V0 i)))∧W.cell? (a.add (i*2+1))=some (.string (RowTag.strV (V1 i)))∧D0 i=.lit (.string (RowTag.strV (V0 i)).data.toList)∧D1 i=.lit (.string (RowTag.strV (V1 i)).data.toList):=by
   intro i hi;obtain⟨h0,h1,g0,g1⟩:=hall i (by omega)
   obtain⟨s0,e0,x0,_⟩:=DataW.trod_string Tryz.underlying9 g0;obtain⟨s1,e1,x1,_⟩:=DataW.trod_string Tryz.underlying9 g1;have e0':V0 i=.string s0:=(List.cons.inj e0).1;have e1':V1 i=.string s1:=(List.cons.inj e1).1;rw [e0'] at h0;rw [e1'] at h1;rw [e0',e1'];exact⟨h0,h1,congrArg Prod.fst x0,congrArg Prod.fst x1⟩
  have hlen:((List.range l).map fun i=>(⟨RowTag.strV (V0 i),RowTag.strV (V1 i)⟩:S45)).length=l:=by simp
  refine⟨some a,c,(List.range l).map fun i=>⟨RowTag.strV (V0 i),RowTag.strV (V1 i)⟩,by rw [hlen],by rw [hlen];exact hl,?_,fun hb=>?_⟩
  ·rw [hlen]
   refine⟨hlen,hm',fun h=>⟨a,rfl,fun j p hp=>?_⟩⟩;obtain⟨hj,rfl⟩:j<l∧(⟨RowTag.strV (V0 j),RowTag.strV (V1 j)⟩:S45)=p:=by
    rw [List.getElem?_map] at hp;by_cases hj:j<l
    ·rw [List.getElem?_range hj] at hp;exact⟨hj,Option.some.inj hp⟩
    ·rw [List.getElem?_eq_none (by simp;omega)] at hp;cases hp
   obtain⟨h0,h1,_,_⟩:=each j hj;refine⟨[.string (RowTag.strV (V0 j)),.string (RowTag.strV (V1 j))],rfl,k45_mk W ⟨RowTag.strV (V0 j),RowTag.strV (V1 j)⟩,fun i u hu=>?_⟩
   match i,hu with
   |0,hu=>obtain rfl:=Option.some.inj hu;exact h0
   |1,hu=>obtain rfl:=Option.some.inj hu;exact h1
  ·have hd:=congrArg Prod.fst hx
   simp only at hd;rw [hd] at hb;simp only [Rows.uptoBulk] at hb;have h1:=RowTag.bulk_len ((List.range l).map fun i=>(.agg [D0 i,D1 i]:DataW H));rw [List.length_map,List.length_range] at h1;rw [hlen];omega
end
end Go.Proofs.YtphjhbppjakocaaGreatDoor.RowPrs
