/- Several texts of this claim in one: Pl1, Pl2, Lap, Brief3, RPutKey, PU15; conditions: those that each theorem states. -/
import Derived.Test.YtphjhbppjakocaaGreatDoorQCopied
import Derived.Test.YtphjhbppjakocaaGreatDoorWInv
import Derived.Test.YtphjhbppjakocaaGreatDoorWN
import Derived.Test.YtphjhbppjakocaaGreatDoorWTab
set_option linter.unusedVariables false
set_option linter.unusedSimpArgs false
namespace Go.Proofs.YtphjhbppjakocaaGreatDoor.Pl
open Go.RowKit Go.Proofs.YtphjhbppjakocaaGreatDoorW.PrintWords Go.Proofs.YtphjhbppjakocaaGreatDoor.PTag
abbrev Bs:=List UInt8
abbrev L (s:ByteArray):Bs:=s.data.toList
abbrev S (l:Bs):ByteArray:=⟨l.toArray⟩
theorem w64 {x:Int} (h: -9223372036854775808≤x∧x≤9223372036854775807):wrap64 x=x:=by unfold wrap64;omega
theorem LS (l:Bs):L (S l)=l:=by simp [L]
theorem SL (s:ByteArray):S (L s)=s:=by cases s;simp [L]
theorem L_len (s:ByteArray):(L s).length=s.size:=data_length s
theorem S_size (l:Bs):(S l).size=l.length:=by rw [← L_len,LS]
theorem L_inj {a b:ByteArray} (h:L a=L b):a=b:=by rw [← SL a,← SL b,h]
theorem toList_L (s:ByteArray):s.toList=L s:=Lib.toList_data s
theorem bt_L {s:ByteArray} {i:Nat} (h:i<s.size):bt s (i:Int)=(((L s)[i]'(by rw [L_len];exact h)).toNat:Int):=by
 unfold bt;rw [dif_pos (by simpa using h)]
 simp [L,ByteArray.getElem_eq_getElem_data]
def isL (c:UInt8):Bool:=(decide (65≤c.toNat)&&decide (c.toNat≤90))||(decide (97≤c.toNat)&&decide (c.toNat≤122))
def isD (c:UInt8):Bool:=decide (48≤c.toNat)&&decide (c.toNat≤57)
def isS (c:UInt8):Bool:=isL c||isD c
theorem all_u8 {p:UInt8→Prop} [DecidablePred p] (h:∀ n:Fin 256,p (UInt8.ofNat n.val)) (c:UInt8):p c:=by
 have:=h ⟨c.toNat,c.toNat_lt⟩;simpa using this
set_option maxRecDepth 100000 in
theorem or32 (c:UInt8):(isL c=true↔¬ (Go.bits .or .u8 (c.toNat:Int) 32<97)∧¬ (Go.bits .or .u8 (c.toNat:Int) 32>122)):=
 all_u8 (p:=fun c=>(isL c=true↔¬ (Go.bits .or .u8 (c.toNat:Int) 32<97)∧¬ (Go.bits .or .u8 (c.toNat:Int) 32>122))) (by decide +kernel) c
def lets (l:Bs) (lo hi:Nat):Bool:=l.all isL&&(decide (lo≤l.length)&&decide (l.length≤hi))
def sgns (l:Bs) (lo hi:Nat):Bool:=l.all isS&&(decide (lo≤l.length)&&decide (l.length≤hi))
def nums (l:Bs):Bool:=l.all isD&&decide (l.length=3)
def regn (l:Bs):Bool:=lets l 2 2||nums l
def vart (l:Bs):Bool:=sgns l 5 8||(sgns l 4 4&&isD (l.headD 0))
theorem end_int (n lo hi:Nat):(if (n:Int)≥(lo:Int) then(some (decide ((n:Int)≤(hi:Int)))) else some false)=some (decide (lo≤n)&&decide (n≤hi)):=by
 by_cases h:lo≤n
 ·rw [if_pos (by omega)];simp [h]
 ·rw [if_neg (by omega)];simp [h]
theorem ev_all (l:Bs) (p:UInt8→Bool) (e:Bool) (g:Nat→Nat→Option Bool) (hend:Ev (fun k=>g k l.length) e) (ht:∀ i c,(h:i<l.length)→l[i]=c→p c=true→∀ r,Ev (fun k=>g k (i+1)) r→Ev (fun k=>g k i) r)
 (hf:∀ i c,(h:i<l.length)→l[i]=c→p c=false→Ev (fun k=>g k i) false):Ev (fun k=>g k 0) (l.all p&&e):=by
 have key:∀ d i,l.length - i=d→i≤l.length→Ev (fun k=>g k i) ((l.drop i).all p&&e):=by
  intro d;induction d with
  |zero=>
   intro i h1 h2;have:i=l.length:=by omega
   subst this;rw [List.drop_length];simpa using hend
  |succ d ih=>
   intro i h1 h2;have hlt:i<l.length:=by omega
   rw [List.drop_eq_getElem_cons hlt,List.all_cons];cases hp:p l[i] with
   |true=>rw [Bool.true_and];exact ht i _ hlt rfl hp _ (ih (i+1) (by omega) (by omega))
   |false=>rw [Bool.false_and,Bool.false_and];exact hf i _ hlt rfl hp
 simpa using key l.length 0 (by omega) (by omega)
theorem bt_c {s:ByteArray} {i:Nat} {c:UInt8} (h:i<(L s).length) (hc:(L s)[i]=c):bt s (i:Int)=(c.toNat:Int)∧i<s.size:=by
 have hlt:i<s.size:=by rw [← L_len];exact h
 exact⟨by rw [bt_L hlt,hc],hlt⟩
theorem next64 {s:ByteArray} (hs:s.size<9223372036854775807) {i:Nat} (h:i<s.size):wrap64 ((i:Int)+1)=((i+1:Nat):Int):=w64 (by omega)
theorem letters_f (s:ByteArray) (lo hi:Nat) (hs:s.size<9223372036854775807):Ev (fun k=>tag_letters.f k s (lo:Int) (hi:Int)) (lets (L s) lo hi):=by
 unfold tag_letters.f lets;refine ev_all (L s) isL _ (fun k i=>tag_letters.l0 k s (lo:Int) (hi:Int) (s.size:Int) (i:Int)) ?_ ?_ ?_
 ·refine Ev.step (f:=fun _=>some (decide (lo≤s.size)&&decide (s.size≤hi))) (fun k=>?_) (by rw [L_len];exact Ev.now _)
  simp only [tag_letters.l0];rw [L_len,if_neg (by omega)]
  exact end_int s.size lo hi
 ·intro i c h hc hp r hr
  obtain⟨hbt,hlt⟩:=bt_c h hc;obtain⟨h1,h2⟩:=(or32 c).1 hp;refine Ev.step (f:=fun k=>tag_letters.j1 k s lo hi s.size i false) (fun k=>?_) (Ev.step (f:=fun k=>tag_letters.l0 k s (lo:Int) (hi:Int) (s.size:Int) ((i+1:Nat):Int)) (fun k=>?_) hr)
  ·simp only [tag_letters.l0]
   rw [if_pos (by omega),if_pos (by omega),if_pos (by omega),hbt,if_neg h1,decide_eq_false h2]
  ·simp only [tag_letters.j1]
   rw [if_neg (by simp),next64 hs hlt]
 ·intro i c h hc hp
  obtain⟨hbt,hlt⟩:=bt_c h hc;have hn:=fun h=>(by simpa [hp] using (or32 c).2 h:False)
  refine Ev.step (f:=fun k=>tag_letters.j1 k s lo hi s.size i true) (fun k=>?_) (Ev.step (f:=fun k=>some false) (fun k=>by simp [tag_letters.j1]) (Ev.now _))
  simp only [tag_letters.l0];rw [if_pos (by omega),if_pos (by omega),if_pos (by omega),hbt]
  by_cases h1:Go.bits .or .u8 (c.toNat:Int) 32<97
  ·rw [if_pos h1]
  ·rw [if_neg h1,decide_eq_true (Classical.byContradiction fun h2=>hn ⟨h1,h2⟩)]
theorem numerals_f (s:ByteArray) (hs:s.size<9223372036854775807):Ev (fun k=>tag_numerals.f k s) (nums (L s)):=by
 unfold tag_numerals.f nums;refine ev_all (L s) isD _ (fun k i=>tag_numerals.l0 k s (s.size:Int) (i:Int)) ?_ ?_ ?_
 ·refine Ev.step (f:=fun _=>some (decide (s.size=3))) (fun k=>?_) (by rw [L_len];exact Ev.now _)
  simp only [tag_numerals.l0];rw [L_len,if_neg (by omega),Option.some.injEq,Bool.eq_iff_iff]
  simp;omega
 ·intro i c h hc hp r hr
  obtain⟨hbt,hlt⟩:=bt_c h hc;simp only [isD,Bool.and_eq_true,decide_eq_true_eq] at hp;refine Ev.step (f:=fun k=>tag_numerals.j1 k s s.size i false) (fun k=>?_) (Ev.step (f:=fun k=>tag_numerals.l0 k s (s.size:Int) ((i+1:Nat):Int)) (fun k=>?_) hr)
  ·simp only [tag_numerals.l0]
   rw [if_pos (by omega),if_pos (by omega),if_pos (by omega),hbt,if_neg (by omega),decide_eq_false (by omega)]
  ·simp only [tag_numerals.j1]
   rw [if_neg (by simp),next64 hs hlt]
 ·intro i c h hc hp
  obtain⟨hbt,hlt⟩:=bt_c h hc;have hn:¬ (48≤c.toNat∧c.toNat≤57):=by simpa [isD] using hp
  refine Ev.step (f:=fun k=>tag_numerals.j1 k s s.size i true) (fun k=>?_) (Ev.step (f:=fun k=>some false) (fun k=>by simp [tag_numerals.j1]) (Ev.now _))
  simp only [tag_numerals.l0];rw [if_pos (by omega),if_pos (by omega),if_pos (by omega),hbt]
  by_cases h1:(c.toNat:Int)<48
  ·rw [if_pos h1]
  ·rw [if_neg h1,decide_eq_true (by omega)]
theorem region_f (s:ByteArray) (hs:s.size<9223372036854775807):Ev (fun k=>tag_region.f k s) (regn (L s)):=by
 unfold tag_region.f regn;refine Ev.bind (letters_f s 2 2 hs) ?_;cases lets (L s) 2 2 with
 |true=>simpa using Ev.now _
 |false=>simpa using Ev.bind (numerals_f s hs) (Ev.now _)
theorem signs_f (s:ByteArray) (lo hi:Nat) (hs:s.size<9223372036854775807):Ev (fun k=>tag_signs.f k s (lo:Int) (hi:Int)) (sgns (L s) lo hi):=by
 unfold tag_signs.f sgns;refine ev_all (L s) isS _ (fun k i=>tag_signs.l0 k s (lo:Int) (hi:Int) (s.size:Int) (i:Int)) ?_ ?_ ?_
 ·refine Ev.step (f:=fun _=>some (decide (lo≤s.size)&&decide (s.size≤hi))) (fun k=>?_) (by rw [L_len];exact Ev.now _)
  simp only [tag_signs.l0];rw [L_len,if_neg (by omega)]
  exact end_int s.size lo hi
 ·intro i c h hc hp r hr
  obtain⟨hbt,hlt⟩:=bt_c h hc;refine Ev.step (f:=fun k=>tag_signs.j1 k s lo hi s.size i false) (fun k=>?_) (Ev.step (f:=fun k=>tag_signs.l0 k s (lo:Int) (hi:Int) (s.size:Int) ((i+1:Nat):Int)) (fun k=>?_) hr)
  ·simp only [tag_signs.l0]
   rw [if_pos (by omega),if_pos (by omega),if_pos (by omega),hbt]
   have ho:=or32 c;cases hL:isL c with
   |true=>
    obtain⟨h1,h2⟩:=ho.1 hL;rw [if_neg h1,if_neg h2]
   | false=>
    have hd:48≤c.toNat∧c.toNat≤57:=by simpa [isS,hL,isD] using hp
    by_cases h1:Go.bits .or .u8 (c.toNat:Int) 32<97
    ·rw [if_pos h1,if_neg (by omega),decide_eq_false (by omega)]
    ·rw [if_neg h1]
     by_cases h2:Go.bits .or .u8 (c.toNat:Int) 32>122
     ·rw [if_pos h2,if_neg (by omega),decide_eq_false (by omega)]
     ·rw [if_neg h2]
  ·simp only [tag_signs.j1]
   rw [if_neg (by simp),next64 hs hlt]
 ·intro i c h hc hp
  obtain⟨hbt,hlt⟩:=bt_c h hc;have hL:isL c=false:=by cases h:isL c <;> simp_all [isS]
  have hd:¬ (48≤c.toNat∧c.toNat≤57):=by simpa [isS,hL,isD] using hp
  have hn:=fun h=>(by simpa [hL] using (or32 c).2 h:False)
  refine Ev.step (f:=fun k=>tag_signs.j1 k s lo hi s.size i true) (fun k=>?_) (Ev.step (f:=fun k=>some false) (fun k=>by simp [tag_signs.j1]) (Ev.now _))
  simp only [tag_signs.l0];rw [if_pos (by omega),if_pos (by omega),if_pos (by omega),hbt]
  have inner:(if (c.toNat:Int)<48 then tag_signs.j1 k s lo hi s.size i true else tag_signs.j1 k s lo hi s.size i (decide ((c.toNat:Int)>57)))=tag_signs.j1 k s lo hi s.size i true:=by
   by_cases h3:(c.toNat:Int)<48
   ·rw [if_pos h3]
   ·rw [if_neg h3,decide_eq_true (by omega)]
  by_cases h1:Go.bits .or .u8 (c.toNat:Int) 32<97
  ·rw [if_pos h1,inner]
  ·rw [if_neg h1,if_pos (Classical.byContradiction fun h2=>hn ⟨h1,h2⟩),inner]
theorem headD_zero (l:Bs) (h:0<l.length):l.headD 0=l[0]:=by
 cases l with
 |nil=>simp at h
 |cons a r=>rfl
theorem variant_f (s:ByteArray) (hs:s.size<9223372036854775807):Ev (fun k=>tag_variant.f k s) (vart (L s)):=by
 unfold tag_variant.f vart;refine Ev.bind (signs_f s 5 8 hs) ?_;cases h5:sgns (L s) 5 8 with
 |true=>simpa using Ev.now _
 | false=>
  simp only [Bool.false_eq_true,if_false,Bool.false_or];refine Ev.bind (signs_f s 4 4 hs) ?_;cases h4:sgns (L s) 4 4 with
  |false=>simpa using Ev.now _
  | true=>
   have hlen:s.size=4:=by
    have:(L s).length=4:=by
     unfold sgns at h4;simp only [Bool.and_eq_true,decide_eq_true_eq] at h4;omega
    rw [← L_len];exact this
   have hb:=bt_L (s:=s) (i:=0) (by omega)
   have hhd:(L s).headD 0=(L s)[0]'(by rw [L_len];omega):=headD_zero _ _
   simp only [if_true,Bool.true_and];rw [if_pos (by omega),show bt s 0=_ from hb,hhd]
   unfold isD;by_cases h1:((L s)[0]'(by rw [L_len];omega)).toNat≥48
   ·rw [if_pos (by omega)]
    refine Ev.congr (f:=fun _=>some (decide (48≤((L s)[0]'(by rw [L_len];omega)).toNat)&&decide (((L s)[0]'(by rw [L_len];omega)).toNat≤57))) (fun k=>?_) (Ev.now _)
    rw [decide_eq_true h1,Bool.true_and,Option.some.injEq,Bool.eq_iff_iff];simp;omega
   ·rw [if_neg (by omega)]
    refine Ev.congr (f:=fun _=>some false) (fun k=>rfl) ?_;rw [decide_eq_false h1,Bool.false_and];exact Ev.now _
theorem letter_f (c:UInt8):i7_letter.f (c.toNat:Int)=some (isL c):=by
 unfold i7_letter.f isL;by_cases h1:c.toNat≥97
 ·rw [if_pos (by omega)]
  by_cases h2:c.toNat≤122
  ·rw [if_pos (by omega)];simp [h1,h2]
  ·rw [if_neg (by omega),if_pos (by omega)]
   have:¬ c.toNat≤90:=by omega
   simp [h2,this];omega
 ·rw [if_neg (by omega)]
  by_cases h2:c.toNat≥65
  ·rw [if_pos (by omega)];simp [h1,h2];omega
  ·rw [if_neg (by omega)];simp [h1,h2]
theorem digit_f (c:UInt8):idiomref01_Digit.f (c.toNat:Int)=some (isD c):=by
 unfold idiomref01_Digit.f isD;by_cases h1:c.toNat≥48
 ·rw [if_pos (by omega)];simp [h1];omega
 ·rw [if_neg (by omega)];simp [h1]
theorem rletters_f (s:ByteArray) (n:Nat) (hs:s.size<9223372036854775807):Ev (fun k=>i7_letters.f k s (n:Int)) (lets (L s) n n):=by
 unfold i7_letters.f lets;refine ev_all (L s) isL _ (fun k i=>i7_letters.l0 k s (n:Int) (i:Int)) ?_ ?_ ?_
 ·refine Ev.step (f:=fun _=>some (decide (n≤s.size)&&decide (s.size≤n))) (fun k=>?_) (by rw [L_len];exact Ev.now _)
  simp only [i7_letters.l0];rw [L_len,if_neg (by omega),Option.some.injEq,Bool.eq_iff_iff]
  simp;omega
 ·intro i c h hc hp r hr
  obtain⟨hbt,hlt⟩:=bt_c h hc;refine Ev.step (f:=fun k=>i7_letters.l0 k s (n:Int) ((i+1:Nat):Int)) (fun k=>?_) hr;simp only [i7_letters.l0];rw [if_pos (by omega),if_pos (by omega),hbt,letter_f,hp]
  simp only [Option.bind_some,if_true];rw [next64 hs hlt]
 ·intro i c h hc hp
  obtain⟨hbt,hlt⟩:=bt_c h hc;refine Ev.step (f:=fun k=>some false) (fun k=>?_) (Ev.now _);simp only [i7_letters.l0];rw [if_pos (by omega),if_pos (by omega),hbt,letter_f,hp]
  simp
theorem lang_f (s:ByteArray) (hs:s.size<9223372036854775807):Ev (fun k=>i7_lang.f k s) (lets (L s) 2 3):=by
 have e:lets (L s) 2 3=(lets (L s) 2 2||lets (L s) 3 3):=by
  unfold lets;cases (L s).all isL with
  |false=>simp
  |true=>rw [Bool.eq_iff_iff];simp;omega
 rw [e];unfold i7_lang.f;refine Ev.bind (rletters_f s 2 hs) ?_;cases lets (L s) 2 2 with
 |true=>simpa using Ev.now _
 |false=>simpa using Ev.bind (rletters_f s 3 hs) (Ev.now _)
theorem script_f (s:ByteArray) (hs:s.size<9223372036854775807):Ev (fun k=>i7_script.f k s) (lets (L s) 4 4):=by
 unfold i7_script.f;exact Ev.bind (rletters_f s 4 hs) (Ev.now _)
theorem rregion_f (s:ByteArray) (hs:s.size<9223372036854775807):Ev (fun k=>i7_region.f k s) (regn (L s)):=by
 unfold i7_region.f regn;refine Ev.bind (rletters_f s 2 hs) ?_;cases lets (L s) 2 2 with
 |true=>simpa using Ev.now _
 | false=>
  simp only [Bool.false_eq_true,if_false,Bool.false_or];by_cases h3:s.size=3
  ·obtain ⟨a,b,c,hl⟩:∃ a b c,L s=[a,b,c]:=by
    have hlen:=L_len s;rw [h3] at hlen
    match hh:L s,hlen with
    |[a,b,c],_=>exact ⟨a,b,c,rfl⟩
   have b0:bt s 0=(a.toNat:Int):=by have:=bt_L (s:=s) (i:=0) (by omega);simp only [hl] at this;exact this
   have b1:bt s 1=(b.toNat:Int):=by have:=bt_L (s:=s) (i:=1) (by omega);simp only [hl] at this;exact this
   have b2:bt s 2=(c.toNat:Int):=by have:=bt_L (s:=s) (i:=2) (by omega);simp only [hl] at this;exact this
   refine Ev.congr (f:=fun _=>some (nums (L s))) (fun k=>?_) (Ev.now _);rw [if_pos (by omega),if_pos (by omega),b0,digit_f,b1,digit_f,b2,digit_f,hl]
   simp only [Option.bind_some,nums,List.all_cons,List.all_nil,List.length_cons,List.length_nil];cases isD a <;> cases isD b <;> simp <;> omega
  ·refine Ev.congr (f:=fun _=>some false) (fun k=>if_neg (by omega)) ?_
   have:nums (L s)=false:=by unfold nums;rw [L_len];simp [h3]
   rw [this];exact Ev.now _
theorem rsigns_f (s:ByteArray) (lo hi:Nat) (hs:s.size<9223372036854775807):Ev (fun k=>i7_signs.f k s (lo:Int) (hi:Int)) (sgns (L s) lo hi):=by
 unfold i7_signs.f sgns;refine ev_all (L s) isS _ (fun k i=>i7_signs.l0 k s (lo:Int) (hi:Int) (i:Int)) ?_ ?_ ?_
 ·refine Ev.step (f:=fun _=>some (decide (lo≤s.size)&&decide (s.size≤hi))) (fun k=>?_) (by rw [L_len];exact Ev.now _)
  simp only [i7_signs.l0];rw [L_len,if_neg (by omega)]
  exact end_int s.size lo hi
 ·intro i c h hc hp r hr
  obtain⟨hbt,hlt⟩:=bt_c h hc;refine Ev.step (f:=fun k=>i7_signs.j1 k s lo hi i false) (fun k=>?_) (Ev.step (f:=fun k=>i7_signs.l0 k s (lo:Int) (hi:Int) ((i+1:Nat):Int)) (fun k=>?_) hr)
  ·simp only [i7_signs.l0]
   rw [if_pos (by omega),if_pos (by omega),hbt,letter_f,digit_f]
   unfold isS at hp;cases hL:isL c with
   |true=>simp
   |false=>rw [hL] at hp;simp at hp;simp [hp]
  ·simp only [i7_signs.j1]
   rw [if_neg (by simp),next64 hs hlt]
 ·intro i c h hc hp
  obtain⟨hbt,hlt⟩:=bt_c h hc;have hL:isL c=false:=by cases h:isL c <;> simp_all [isS]
  have hD:isD c=false:=by simpa [isS,hL] using hp
  refine Ev.step (f:=fun k=>i7_signs.j1 k s lo hi i true) (fun k=>?_) (Ev.step (f:=fun k=>some false) (fun k=>by simp [i7_signs.j1]) (Ev.now _))
  simp only [i7_signs.l0];rw [if_pos (by omega),if_pos (by omega),hbt,letter_f,digit_f,hL,hD]
  simp
theorem rvariant_f (s:ByteArray) (hs:s.size<9223372036854775807):Ev (fun k=>i7_variant.f k s) (vart (L s)):=by
 unfold i7_variant.f vart;refine Ev.bind (rsigns_f s 5 8 hs) ?_;cases h5:sgns (L s) 5 8 with
 |true=>simpa using Ev.now _
 | false=>
  simp only [Bool.false_eq_true,if_false,Bool.false_or];refine Ev.bind (rsigns_f s 4 4 hs) ?_;cases h4:sgns (L s) 4 4 with
  |false=>simpa using Ev.now _
  | true=>
   have hlen:s.size=4:=by
    have:(L s).length=4:=by
     unfold sgns at h4;simp only [Bool.and_eq_true,decide_eq_true_eq] at h4;omega
    rw [← L_len];exact this
   have hb:=bt_L (s:=s) (i:=0) (by omega)
   have hhd:(L s).headD 0=(L s)[0]'(by rw [L_len];omega):=headD_zero _ _
   simp only [if_true,Bool.true_and];rw [if_pos (by omega),show bt s 0=_ from hb,hhd,digit_f]
   exact Ev.now _
def lowB:UInt8→UInt8:=tag_lower.g
def upB:UInt8→UInt8:=tag_upper.g
def low (s:ByteArray):ByteArray:=S ((L s).map lowB)
def upp (s:ByteArray):ByteArray:=S ((L s).map upB)
theorem low_size (s:ByteArray):(low s).size=s.size:=by unfold low;rw [S_size,List.length_map,L_len]
theorem upp_size (s:ByteArray):(upp s).size=s.size:=by unfold upp;rw [S_size,List.length_map,L_len]
theorem lower_f (s:ByteArray) (hs:s.size<9223372036854775807):tag_lower.f s=some (low s):=by unfold tag_lower.f;rw [if_pos hs];rfl
theorem small_f (s:ByteArray) (hs:s.size<9223372036854775807):i7_Small.f s=some (low s):=by unfold i7_Small.f;rw [if_pos hs];rfl
theorem upper_f (s:ByteArray) (hs:s.size<9223372036854775807):tag_upper.f s=some (upp s):=by unfold tag_upper.f;rw [if_pos hs];rfl
theorem great_f (s:ByteArray) (hs:s.size<9223372036854775807):i7_great.f s=some (upp s):=by unfold i7_great.f;rw [if_pos hs];rfl
def titl (s:ByteArray):ByteArray:=upp (s.extract 0 1)++low (s.extract 1 s.size)
theorem ext_size (s:ByteArray) (a b:Nat):(s.extract a b).size=min b s.size - a:=by simp
theorem title_f (s:ByteArray) (hs:s.size<9223372036854775807) (h1:1≤s.size):tag_title.f s=some (titl s):=by
 have e1:(s.extract 0 1).size≤s.size:=by rw [ext_size];omega
 have e2:(s.extract 1 s.size).size+(s.extract 0 1).size≤s.size:=by rw [ext_size,ext_size];omega
 unfold tag_title.f;rw [if_pos (by omega),if_pos (by omega),upper_f _ (by omega),lower_f _ (by omega)]
 simp only [Option.bind_some];rw [upp_size,low_size,if_pos (by omega)]
 rfl
theorem rtitle_f (s:ByteArray) (hs:s.size<9223372036854775807):i7_title.f s=some (if s.size=0 then⟨#[]⟩ else titl s):=by
 unfold i7_title.f;rw [toList_L];by_cases h0:s.size=0
 ·rw [if_pos h0,if_pos (List.length_eq_zero_iff.1 (by rw [L_len];exact h0))]
 ·have e1:(s.extract 0 1).size≤s.size:=by rw [ext_size];omega
  have e2:(s.extract 1 s.size).size+(s.extract 0 1).size≤s.size:=by rw [ext_size,ext_size];omega
  rw [if_neg (fun h=>h0 (by rw [← L_len,h];rfl)),if_neg h0,if_pos (by omega),if_pos (by omega),great_f _ (by omega),small_f _ (by omega)]
  simp only [Option.bind_some];rw [upp_size,low_size,if_pos (by omega)]
  rfl
theorem L_app (a b:ByteArray):L (a++b)=L a++L b:=by simp [L]
end Go.Proofs.YtphjhbppjakocaaGreatDoor.Pl
namespace Go.Proofs.YtphjhbppjakocaaGreatDoor.PTag
open Go.RowKit Go.Proofs.YtphjhbppjakocaaGreatDoorW.PrintWords Go.Proofs.YtphjhbppjakocaaGreatDoorW.PrintLast Go.Proofs.YtphjhbppjakocaaGreatDoorW.PrintMore
theorem hs_ {n:Nat} {w W:World} (h:Below n w W:=by repeat (first|(with_reducible first|exact HB.out|apply below_alloc|apply pw_below_drewN|apply below_drew1|refine below_set ?_ (Aside0.out (by assumption)))|exact HB.out)):Below n w W:=h
theorem hsz_ {w W:World} (h:Below w.heap.size w W:=by repeat (first|(with_reducible first|exact HB.out|apply below_alloc|apply pw_below_drewN|apply below_drew1|refine below_set ?_ (Aside0.out (by assumption)))|exact HB.out)):w.heap.size≤W.heap.size:=below_size h
theorem p5_ {w W W2:World} {g:Nat} {t:TypeId} {a b c d e a' b' c' d' e':Value} (h0:Aside0 (w.heap[g]?=some (.cells #[a,b,c,d,e] t (0,0)))) (h2:Gro (((((W.setCell ⟨g,0,none⟩ a').setCell ⟨g,1,none⟩ b').setCell ⟨g,2,none⟩ c').setCell ⟨g,3,none⟩ d').setCell ⟨g,4,none⟩ e') W2:=by (with_reducible repeat (first|apply Gro.alloc|apply Gro.drewN|apply Gro.drew));exact Gro.refl _)
 (h:Gro w W:=by (with_reducible repeat (first|apply Gro.alloc|apply Gro.drewN|apply Gro.drew));exact Gro.refl _):W2.heap[g]?=some (.cells #[a',b',c',d',e'] t (0,0)):=
 h2.1 _ _ (blk_put (cs':=#[a',b',c',d',e']) (blk_put (cs':=#[a',b',c',d',e]) (blk_put (cs':=#[a',b',c',d,e]) (blk_put (cs':=#[a',b',c,d,e]) (blk_put (cs':=#[a',b,c,d,e]) (h.1 g _ h0.out) 0 a' rfl) 1 b' rfl) 2 c' rfl) 3 d' rfl) 4 e' rfl)
theorem vf5_ {α:Type} {d:Kd α} {e base:Nat} {ok:Nat→Prop} {v:Value} {xs:List α} {w W:World} {g:Nat} {u0 u1 u2 u3 u4:Value} (h0:Aside0 (d.V e w base ok v xs)) (hk:∀ k,ok k→k≠g) (h:Gro w W:=by (with_reducible repeat (first|apply Gro.alloc|apply Gro.drewN|apply Gro.drew));exact Gro.refl _):
 d.V e (((((W.setCell ⟨g,0,none⟩ u0).setCell ⟨g,1,none⟩ u1).setCell ⟨g,2,none⟩ u2).setCell ⟨g,3,none⟩ u3).setCell ⟨g,4,none⟩ u4) base (fun k=>ok k∧k≠g) v xs:=
 Kd.V_far (p:=⟨g,4,none⟩) (Kd.V_far (p:=⟨g,3,none⟩) (Kd.V_far (p:=⟨g,2,none⟩) (Kd.V_far (p:=⟨g,1,none⟩) (Kd.V_far (p:=⟨g,0,none⟩) (Kd.V_mono (h.2.2 _ _ _ _ _ _ _ h0.out) (fun k q=>(⟨q,hk k q⟩:_∧k≠g))) (fun _ q=>q.2) u0) (fun _ q=>q.2) u1) (fun _ q=>q.2) u2) (fun _ q=>q.2) u3) (fun _ q=>q.2) u4
theorem cb_ {α:Type} {d:Kd α} {w W:World} {A:Option Addr} {n:Nat} {xs:List α} (h0:Aside0 (d.C w A n xs)) (h:Below w.heap.size w W:=by repeat (first|(with_reducible first|exact HB.out|apply below_alloc|apply pw_below_drewN|apply below_drew1|refine below_set ?_ (Aside0.out (by assumption)))|exact HB.out)):d.C W A n xs:=Kd.C_below h0.out h
theorem cf5_ {W:World} {g:Nat} {p:Addr} {x u0 u1 u2 u3 u4:Value} (hp:p.block≠g) (h:W.cell? p=some x):(((((W.setCell ⟨g,0,none⟩ u0).setCell ⟨g,1,none⟩ u1).setCell ⟨g,2,none⟩ u2).setCell ⟨g,3,none⟩ u3).setCell ⟨g,4,none⟩ u4).cell? p=some x:=
 (cell_far (p:=⟨g,4,none⟩) hp _).trans ((cell_far (p:=⟨g,3,none⟩) hp _).trans ((cell_far (p:=⟨g,2,none⟩) hp _).trans ((cell_far (p:=⟨g,1,none⟩) hp _).trans ((cell_far (p:=⟨g,0,none⟩) hp _).trans h))))
theorem bb_ {w W w1:World} {g:Nat} {o:Obj} (h0:Aside0 (w.heap[g]?=some o)) (hb:Below W.heap.size W w1) (h:Gro w W:=by (with_reducible repeat (first|apply Gro.alloc|apply Gro.drewN|apply Gro.drew));exact Gro.refl _):w1.heap[g]?=some o:=blk_below (h.1 g o h0.out) hb
theorem nl_ {w W:World} {g g':Nat} {o:Obj} (h0:Aside0 (w.heap[g]?=some o)) (hg:g'=W.heap.size) (h:Gro w W:=by (with_reducible repeat (first|apply Gro.alloc|apply Gro.drewN|apply Gro.drew));exact Gro.refl _):g≠g':=by rw [hg];exact Nat.ne_of_lt (blk_lt (h.1 g o h0.out))
theorem ng_ {w W:World} {g g':Nat} {o:Obj} (h0:Aside0 (w.heap[g]?=some o)) (hg:g'=W.heap.size) (h:Gro w W:=by (with_reducible repeat (first|apply Gro.alloc|apply Gro.drewN|apply Gro.drew));exact Gro.refl _):g'≠g:=by rw [hg];exact Nat.ne_of_gt (blk_lt (h.1 g o h0.out))
theorem gw_ {w W:World} {g:Nat} (hg:g=W.heap.size) (h:Below w.heap.size w W:=by repeat (first|(with_reducible first|exact HB.out|apply below_alloc|apply pw_below_drewN|apply below_drew1|refine below_set ?_ (Aside0.out (by assumption)))|exact HB.out)):w.heap.size≤g:=by rw [hg];exact below_size h
theorem ve_ {α:Type} {d:Kd α} {e base:Nat} {ok:Nat→Prop} {v:Value} {xs:List α} {w W w1:World} {g:Nat} (h0:Aside0 (d.V e w base ok v xs)) (hg:g=W.heap.size) (hb:Below W.heap.size W w1) (h:Gro w W:=by (with_reducible repeat (first|apply Gro.alloc|apply Gro.drewN|apply Gro.drew));exact Gro.refl _):d.V e w1 base (fun k=>ok k∧k≠g) v xs:=
 Kd.V_below (Kd.V_elderB (h.2.2 _ _ _ _ _ _ _ h0.out) g (Nat.le_of_eq hg.symm)) hb
theorem rr_ {p:Prop} (h:p:=by first|rfl|(simp;done)|(simp [*];done)):p:=h
theorem re_ {p:Prop} (h:p:=by first|rfl|(simp [errW_none,errW_some] <;> rfl)|(simp [*,errW_none,errW_some] <;> rfl)):p:=h
theorem od_ {p:Prop} [Decidable p] (h:decide p=true:=by first|(with_reducible assumption)|assumption):p:=of_decide_eq_true h
theorem it_ {α:Sort _} {i:Decidable (true=true)} {a b c:α} (h:(@ite α (true=true) i a b)=c):a=c:=(if_pos rfl).symm.trans h
theorem if_f_ {α:Sort _} {i:Decidable (false=true)} {a b c:α} (h:(@ite α (false=true) i a b)=c):b=c:=(if_neg Bool.false_ne_true).symm.trans h
theorem eq2_ {α:Type} [BEq α] [LawfulBEq α] {a b:α} (h:a=b):(a==b)=true∧(a != b)=false:=⟨beq_iff_eq.mpr h,bne_eq_false_iff_eq.mpr h⟩
theorem ne2_ {α:Type} [BEq α] [LawfulBEq α] {a b:α} (h:¬ a=b):(a==b)=false∧(a != b)=true:=⟨beq_eq_false_iff_ne.mpr h,bne_iff_ne.mpr h⟩
theorem eq3_ {a:List UInt8} (h:a=[]):(a==[])=true∧(a != [])=false∧a.isEmpty=true:=⟨beq_iff_eq.mpr h,bne_eq_false_iff_eq.mpr h,List.isEmpty_iff.mpr h⟩
theorem ne3_ {a:List UInt8} (h:¬ a=[]):(a==[])=false∧(a != [])=true∧a.isEmpty=false:=⟨beq_eq_false_iff_ne.mpr h,bne_iff_ne.mpr h,List.isEmpty_eq_false_iff.mpr h⟩
theorem fb_ {a:Addr} {j:Nat} {g:Nat} (h:a.block≠g):(a.add j).block≠g:=by rw [add_block];exact h
theorem cf5x_ {W:World} {g:Nat} {p:Addr} {x:Value} (u0 u1 u2 u3 u4:Value) (hp:p.block≠g) (h:W.cell? p=some x):(((((W.setCell ⟨g,0,none⟩ u0).setCell ⟨g,1,none⟩ u1).setCell ⟨g,2,none⟩ u2).setCell ⟨g,3,none⟩ u3).setCell ⟨g,4,none⟩ u4).cell? p=some x:=cf5_ hp h
end Go.Proofs.YtphjhbppjakocaaGreatDoor.PTag
namespace Go.Proofs.YtphjhbppjakocaaGreatDoor.PTag
open Go.RowKit Go.Proofs.YtphjhbppjakocaaGreatDoorW.PrintWords Go.Proofs.YtphjhbppjakocaaGreatDoorW.PrintLast Go.Proofs.YtphjhbppjakocaaGreatDoorW.PrintMore
attribute [local go_sem] max2_int min2_int max_two min_two max_three min_three max_four min_four
attribute [local go_sem] setCell_drewN_ cell_put_twice_ gtr_less_
mutual
def i7_putKey.l0:Nat→List (S39)→List (S39)→Bool→Int→ByteArray→ByteArray→Option ((List (S39))×Bool)
 |0,_,_,_,_,_,_=>none
 |k+1,x0,x6,x7,x8,aN,aU=>if x8<(x0.length:Int) then(if 0≤x8 then(if ((rd_T39 x0 x8).f0).toList=aN.toList then(some (x0,false)) else(if x7=true then(i7_putKey.j1 k x0 x6 x7 x8 false aN aU) else(i7_putKey.j1 k x0 x6 x7 x8 (Op.bytesLess aN.toList (((rd_T39 x0 x8).f0).toList)) aN aU))) else(none)) else(if x7=true then(some (x6,true)) else(if x6.length<4398046511104 then(some ((x6++[(⟨aN,aU⟩:S39)]),true)) else(none)))
def i7_putKey.j1:Nat→List (S39)→List (S39)→Bool→Int→Bool→ByteArray→ByteArray→Option ((List (S39))×Bool)
 |0,_,_,_,_,_,_,_=>none
 |k+1,x0,x6,x7,x8,x36,aN,aU=>if x36=true then(if x6.length<4398046511104 then((some (x6++[(⟨aN,aU⟩:S39)]:List (S39))).bind fun aM=>(if 0≤x8 then(if x8<(x0.length:Int) then(if aM.length<4398046511104 then(i7_putKey.l0 k x0 (aM++[(⟨(rd_T39 x0 x8).f0,(rd_T39 x0 x8).f1⟩:S39)]) true (wrap64 (x8+1)) aN aU) else(none)) else(none)) else(none))) else(none)) else(if 0≤x8 then(if x8<(x0.length:Int) then(if x6.length<4398046511104 then(i7_putKey.l0 k x0 (x6++[(⟨(rd_T39 x0 x8).f0,(rd_T39 x0 x8).f1⟩:S39)]) x7 (wrap64 (x8+1)) aN aU) else(none)) else(none)) else(none))
end
def i7_putKey.f (k:Nat) (l0:List (S39)) (aD:ByteArray) (aG:ByteArray):Option ((List (S39))×Bool):=i7_putKey.l0 k l0 (([]:List (S39))) false 0 aD aG
set_option maxHeartbeats 8000000 in
set_option maxRecDepth 100000 in
theorem i7_putKey.calls (k:Nat) (P0_:Nat→Prop) (A0:Option Addr) (c0:Nat) (l0:List (S39)) (aD:ByteArray) (aG:ByteArray) (r1:List (S39)) (r2:Bool) (w:World) (hs0:Kd.V k39 39 w w.heap.size (fun k_=>P0_ k_) (.slice A0 l0.length c0) l0) (h:i7_putKey.f k l0 aD aG=some (r1,r2)):
 Calls Tryz.prog 110 #[.slice A0 l0.length c0,.agg #[.string aD,.string aG]] w fun e w'=>∃ v0_:Value,e=.returned (.tuple #[v0_,.bool r2])∧Kd.V k39 39 w' w.heap.size (fun k_=>(P0_ k_∨w.heap.size≤k_)) v0_ r1∧Below w.heap.size w w':=by
 have hu39:=Tryz.underlying39;have HO0:=ak_ (show Kd.V k39 39 w w.heap.size (fun k_=>(P0_ k_∨w.heap.size≤k_)) (.slice A0 l0.length c0) l0 from Kd.V_mono hs0 (fun k_ hk=>.inl hk))
 have HB:=ak_ (Below.refl w.heap.size w);have H:(i7_putKey.l0 k l0 (([]:List (S39))) false 0 aD aG)=some (r1,r2):=h;clear h;obtain⟨bY,aX⟩:∃ y_:List (S39),y_=(([]:List (S39))):=⟨_,rfl⟩;replace H:(i7_putKey.l0 k l0 bY false 0 aD aG)=some (r1,r2):=by first|(rw [aX];with_reducible exact H)|(have H2_:=(Option.bind_some _ _).symm.trans H;rw [aX];with_reducible exact H2_)|(have H2_:=(Option.bind_some _ _).symm.trans H;with_reducible exact H2_)|with_reducible exact H|(rw [aX];exact H)|exact H
 have aW:=ak_ aX;clear aX;have H':=ak_ H;clear H
 go_enter Tryz.func110,Tryz.ntmps110
 go_wp2_with (first|((with_reducible refine gate_dst (N:=3) rfl ?_);refine bx_ 3 #[.string aD,.string aG] 39 ?_;intro aE hg w3 hbox hb;replace HO0:=ak_ (ve_ HO0 hg hb);have aC:=ak_ (hbox);have bZ:=ak_ (gw_ hg);have cA:=ak_ (gw_ hg);replace HB:=ak_ (below_step hb_ hb);clear hb hbox hg)|((with_reducible refine gate_dst (N:=9) rfl ?_);refine Kd.R_lit k39 _ 39 ?hg (N:=9) ?hd (xs:=([]:List (S39))) (inner:=[]) (ok:=fun _=>True) (okp:=fun _=>True) ?hr ?hp (fun _ hk=>hk) trivial (Below.refl _ _) (Nat.le_refl _) (by simp) ?_;(case hd=>rfl);(case hg=>rfl);(case hr=>first|(go_simp;done)|(go_simp;rfl));(case hp=>exact (Reps.none _ _));intro cB w4 ho5 hb hg_ hnew_;clear hg_ hnew_;(first|rw [← aW.out] at ho5|(simp only [Int.reduceToNat] at ho5;rw [← aW.out] at ho5));replace HO0:=ak_ (Kd.V_elder' (va_ HO0) (Kd.R_base ho5) hb);have bG:=ak_ (Kd.R_lower (Kd.R_newB (Kd.R_newM (M:=fun k_=>(w.heap.size≤k_)) ho5 hsz_ (fun k_ h_=>h_)) (g:=aE) (o:=.cells #[.string aD,.string aG] 39 (0,0)) (bk_ aC)) hsz_);replace aC:=ak_ (bb_ aC hb);replace HB:=ak_ (below_step hs_ hb);clear hb ho5))
 repeat (go_quiet (first|((with_reducible refine gate_dst (N:=3) rfl ?_);refine bx_ 3 #[.string aD,.string aG] 39 ?_;intro aE hg w3 hbox hb;replace HO0:=ak_ (ve_ HO0 hg hb);have aC:=ak_ (hbox);have bZ:=ak_ (gw_ hg);have cA:=ak_ (gw_ hg);replace HB:=ak_ (below_step hb_ hb);clear hb hbox hg)|((with_reducible refine gate_dst (N:=9) rfl ?_);refine Kd.R_lit k39 _ 39 ?hg (N:=9) ?hd (xs:=([]:List (S39))) (inner:=[]) (ok:=fun _=>True) (okp:=fun _=>True) ?hr ?hp (fun _ hk=>hk) trivial (Below.refl _ _) (Nat.le_refl _) (by simp) ?_;(case hd=>rfl);(case hg=>rfl);(case hr=>first|(go_simp;done)|(go_simp;rfl));(case hp=>exact (Reps.none _ _));intro cB w4 ho5 hb hg_ hnew_;clear hg_ hnew_;(first|rw [← aW.out] at ho5|(simp only [Int.reduceToNat] at ho5;rw [← aW.out] at ho5));replace HO0:=ak_ (Kd.V_elder' (va_ HO0) (Kd.R_base ho5) hb);have bG:=ak_ (Kd.R_lower (Kd.R_newB (Kd.R_newM (M:=fun k_=>(w.heap.size≤k_)) ho5 hsz_ (fun k_ h_=>h_)) (g:=aE) (o:=.cells #[.string aD,.string aG] 39 (0,0)) (bk_ aC)) hsz_);replace aC:=ak_ (bb_ aC hb);replace HB:=ak_ (below_step hs_ hb);clear hb ho5));try go_wp2_with (first|((with_reducible refine gate_dst (N:=3) rfl ?_);refine bx_ 3 #[.string aD,.string aG] 39 ?_;intro aE hg w3 hbox hb;replace HO0:=ak_ (ve_ HO0 hg hb);have aC:=ak_ (hbox);have bZ:=ak_ (gw_ hg);have cA:=ak_ (gw_ hg);replace HB:=ak_ (below_step hb_ hb);clear hb hbox hg)|((with_reducible refine gate_dst (N:=9) rfl ?_);refine Kd.R_lit k39 _ 39 ?hg (N:=9) ?hd (xs:=([]:List (S39))) (inner:=[]) (ok:=fun _=>True) (okp:=fun _=>True) ?hr ?hp (fun _ hk=>hk) trivial (Below.refl _ _) (Nat.le_refl _) (by simp) ?_;(case hd=>rfl);(case hg=>rfl);(case hr=>first|(go_simp;done)|(go_simp;rfl));(case hp=>exact (Reps.none _ _));intro cB w4 ho5 hb hg_ hnew_;clear hg_ hnew_;(first|rw [← aW.out] at ho5|(simp only [Int.reduceToNat] at ho5;rw [← aW.out] at ho5));replace HO0:=ak_ (Kd.V_elder' (va_ HO0) (Kd.R_base ho5) hb);have bG:=ak_ (Kd.R_lower (Kd.R_newB (Kd.R_newM (M:=fun k_=>(w.heap.size≤k_)) ho5 hsz_ (fun k_ h_=>h_)) (g:=aE) (o:=.cells #[.string aD,.string aG] 39 (0,0)) (bk_ aC)) hsz_);replace aC:=ak_ (bb_ aC hb);replace HB:=ak_ (below_step hs_ hb);clear hb ho5)))
 go_loopg [6,7,8] k (fun kq v6 v7 v8 w'=>∃ (aH:List (S39)) (aQ:Bool) (aA:Int),v7=.bool aQ∧v8=.int .i64 aA∧Aside0 (i7_putKey.l0 kq l0 aH aQ aA aD aG=some (r1,r2))∧Aside0 (kq≤k)∧Aside0 (Kd.V k39 39 w' w.heap.size (fun k_=>(P0_ k_∨w.heap.size≤k_)∧some k_≠(v6:Value).ownBlock∧k_≠aE) (.slice A0 l0.length c0) l0)∧Aside0 (Kd.R k39 39 w' w.heap.size (fun k_=>(w.heap.size≤k_)∧k_≠aE) v6 aH)∧Aside0 (w'.heap[aE]?=some (.cells #[.string aD,.string aG] 39 (0,0)))∧Aside0 (Below w.heap.size w w'))
 case atStart=>exact ⟨(bY),(false),(0),rr_,rr_,H',⟨Nat.le_refl _⟩,⟨Kd.V_mono (va_ HO0) (fun _ hk=>⟨hk.1.1,⟨hk.2,hk.1.2⟩⟩)⟩,⟨Kd.R_mono (ra_ bG) (fun _ hk=>⟨hk.1.1,hk.2⟩)⟩,⟨bk_ aC⟩,⟨hs_⟩⟩
 case round =>
  clear H';obtain⟨aH,aQ,aA,rfl,rfl,HA,HK1,HO_0,HO_6,aC,HB⟩:=hrel;cases gk with
  |zero=>exact absurd HA.out (by simp [i7_putKey.l0])
  | succ k1 =>
   have H:=HA.out;clear HA;simp only [i7_putKey.l0] at H;by_cases c6:aA<(l0.length:Int)
   ·rw [if_pos c6] at H
    have cC:decide (aA<(l0.length:Int))=true:=decide_eq_true c6;clear c6;by_cases c7:0≤aA
    ·rw [if_pos c7] at H
     have cO:decide (0≤aA)=true:=decide_eq_true c7;clear c7;by_cases c8:((rd_T39 l0 aA).f0).toList=aD.toList
     ·rw [if_pos c8] at H
      obtain⟨cD,cE⟩:=eq2_ c8;clear c8;simp only [Option.some.injEq,Prod.mk.injEq] at H;obtain⟨rfl,rfl⟩:=H;have aR:0≤(aA:Int):=od_;have aT:aA<(l0.length:Int):=od_;obtain⟨aV,bH,cF,cG⟩:=at_T39 (Kd.V_reads' HO_0.out).2.2 aA aR aT;cases bH;replace aR:=eq_true aR;replace aT:=eq_true aT;have cY:wr.cell? ⟨aE,0,none⟩=some (.string aD):=(blk_cell aC.out 0).trans rfl;have cZ:wr.cell? ⟨aE,1,none⟩=some (.string aG):=(blk_cell aC.out 1).trans rfl;have dA:=blk_frozen aC.out 0;have dB:=blk_frozen aC.out 1
      go_wp2
      repeat (go_quiet (fail);try go_wp2)
      go_ret2
      exact⟨_,re_,Kd.V_mono (va_ HO_0) (fun _ hk=>hk.1),hs_⟩
     ·rw [if_neg c8] at H
      obtain⟨cD,cE⟩:=ne2_ c8;have bI:=ak_ H;clear H;have aR:0≤(aA:Int):=od_;have aT:aA<(l0.length:Int):=od_;obtain⟨aV,bH,cF,cG⟩:=at_T39 (Kd.V_reads' HO_0.out).2.2 aA aR aT;cases bH;replace aR:=eq_true aR;replace aT:=eq_true aT;have cP:wr.cell? ⟨aE,0,none⟩=some (.string aD):=(blk_cell aC.out 0).trans rfl;have cQ:wr.cell? ⟨aE,1,none⟩=some (.string aG):=(blk_cell aC.out 1).trans rfl;have cR:=blk_frozen aC.out 0;have cS:=blk_frozen aC.out 1
      go_upto_region 7 with (fail)
      repeat (go_quiet (fail);go_upto_region 7 with (fail))
      go_cut [36] (fun v36 wc=>∃ (kq:Nat) (bF:Bool),v36=.bool bF∧Aside0 (i7_putKey.j1 kq l0 aH aQ aA bF aD aG=some (r1,r2))∧Aside0 (kq≤k1)∧Aside0 (Kd.V k39 39 wc w.heap.size (fun k_=>(P0_ k_∨w.heap.size≤k_)∧some k_≠(u6:Value).ownBlock∧k_≠aE) (.slice (some aV) l0.length c0) l0)∧Aside0 (Kd.R k39 39 wc w.heap.size (fun k_=>(w.heap.size≤k_)∧k_≠aE) u6 aH)∧Aside0 (wc.heap[aE]?=some (.cells #[.string aD,.string aG] 39 (0,0)))∧Aside0 (Below w.heap.size w wc))
      case first=>
       have H:=bI.out;clear bI;by_cases c12:aQ=true
       ·subst c12
        replace H:=it_ H;have H':=ak_ H;clear H
        go_wp2
        repeat (go_quiet (fail);try go_wp2)
        go_meet
        case rel=>exact ⟨_,(false),rr_,H',⟨by have:=HK1.out;first|omega|exact Nat.le_refl _⟩,⟨va_ HO_0⟩,⟨by(with_reducible repeat (first|apply Kd.R_alloc|apply Kd.R_drewN|apply Kd.R_drew));exact HO_6.out⟩,⟨bk_ aC⟩,⟨hs_⟩⟩
       ·replace c12:=Bool.eq_false_iff.mpr c12
        subst c12;replace H:=if_f_ H;have H':=ak_ H;clear H;have bJ:0≤(aA:Int):=od_;have bK:aA<(l0.length:Int):=od_;obtain⟨cT,cU,dC,dD⟩:=at_T39 (Kd.V_reads' HO_0.out).2.2 aA bJ bK;obtain rfl:aV=cT:=(by injection cU)
        replace bJ:=eq_true bJ;replace bK:=eq_true bK;have dE:wr.cell? ⟨aE,0,none⟩=some (.string aD):=(blk_cell aC.out 0).trans rfl;have dF:wr.cell? ⟨aE,1,none⟩=some (.string aG):=(blk_cell aC.out 1).trans rfl;have dG:=blk_frozen aC.out 0;have dH:=blk_frozen aC.out 1
        go_wp2
        repeat (go_quiet (fail);try go_wp2)
        go_meet
        case rel=>exact ⟨_,((Op.bytesLess aD.toList (((rd_T39 l0 aA).f0).toList))),rr_,H',⟨by have:=HK1.out;first|omega|exact Nat.le_refl _⟩,⟨va_ HO_0⟩,⟨by(with_reducible repeat (first|apply Kd.R_alloc|apply Kd.R_drewN|apply Kd.R_drew));exact HO_6.out⟩,⟨bk_ aC⟩,⟨hs_⟩⟩
      case rest=>
       clear bI;clear cC cO c8 cD cE cP cQ cR cS cF cG aR aT;obtain⟨kq,bF,rfl,HA,HJ9,HO_0,HO_6,aC,HB⟩:=hcut;cases kq with
       |zero=>exact absurd HA.out (by simp [i7_putKey.j1])
       | succ kj9=>
        have H:=HA.out;clear HA;simp only [i7_putKey.j1] at H;by_cases c14:bF=true
        ·subst c14
         replace H:=it_ H;by_cases c15:aH.length<4398046511104
         ·rw [if_pos c15] at H
          have bL:=ak_ c15;clear c15;obtain⟨aM,aY⟩:∃ y_:List (S39),y_=(aH++[(⟨aD,aG⟩:S39)]):=⟨_,rfl⟩;replace H:(if 0≤aA then(if aA<(l0.length:Int) then(if aM.length<4398046511104 then(i7_putKey.l0 kj9 l0 (aM++[(⟨(rd_T39 l0 aA).f0,(rd_T39 l0 aA).f1⟩:S39)]) true (wrap64 (aA+1)) aD aG) else(none)) else(none)) else(none))=some (r1,r2):=by first|(rw [aY];with_reducible exact H)|(have H2_:=(Option.bind_some _ _).symm.trans H;rw [aY];with_reducible exact H2_)|(have H2_:=(Option.bind_some _ _).symm.trans H;with_reducible exact H2_)|with_reducible exact H|(rw [aY];exact H)|exact H
          have bM:=ak_ aY;clear aY;by_cases c16:0≤aA
          ·rw [if_pos c16] at H
           have c16b0:decide (0≤aA)=true:=decide_eq_true c16;clear c16;by_cases c17:aA<(l0.length:Int)
           ·rw [if_pos c17] at H
            have c17b0:decide (aA<(l0.length:Int))=true:=decide_eq_true c17;clear c17;by_cases c18:aM.length<4398046511104
            ·rw [if_pos c18] at H
             have bN:=ak_ c18;clear c18;obtain⟨cH,aZ⟩:∃ y_:List (S39),y_=(aM++[(⟨(rd_T39 l0 aA).f0,(rd_T39 l0 aA).f1⟩:S39)]):=⟨_,rfl⟩;replace H:(i7_putKey.l0 kj9 l0 cH true (wrap64 (aA+1)) aD aG)=some (r1,r2):=by first|(rw [aZ];with_reducible exact H)|(have H2_:=(Option.bind_some _ _).symm.trans H;rw [aZ];with_reducible exact H2_)|(have H2_:=(Option.bind_some _ _).symm.trans H;with_reducible exact H2_)|with_reducible exact H|(rw [aZ];exact H)|exact H
             have bO:=ak_ aZ;clear aZ;have H':=ak_ H;clear H;have dI:wc.cell? ⟨aE,0,none⟩=some (.string aD):=(blk_cell aC.out 0).trans rfl;have dJ:wc.cell? ⟨aE,1,none⟩=some (.string aG):=(blk_cell aC.out 1).trans rfl;have dK:=blk_frozen aC.out 0;have dL:=blk_frozen aC.out 1
             go_wp2_with (first|((with_reducible refine gate_builtin (b:=.append) (xs:=#[.tmp 37,.tmp 39]) rfl ?_);at_builtin;refine Kd.R_append k39 (w0:=w) w.heap.size rfl (.tmp 37) (.tmp 39) 23 39 (.agg #[(.string ⟨#[]⟩),(.string ⟨#[]⟩)]) 32 rfl Tryz.underlying23 info39 rfl (by decide) (by omega) u6 aH (⟨aD,aG⟩:S39) [.string aD,.string aG] (fun k_=>(w.heap.size≤k_)∧k_≠aE) (fun _=>False) rfl rfl ?aP (fun _ hk=>hk.elim) ?aF ?aO ?aB ?aS ?aL ?_;(case aP=>exact k39_mkM _ _ _ (⟨aD,aG⟩:S39));(case aB=>exact hs_);(case aF=>exact (fun k_ hk=>⟨(Nat.le_trans hsz_ hk),Kd.freshB (g:=aE) (o:=.cells #[.string aD,.string aG] 39 (0,0)) (bk_ aC) k_ hk⟩));(case aO=>exact (ra_ HO_6));(case aS=>exact hsz_);(case aL=>have:=bL.out;omega);intro bA w20 ho hb hg hat;rw [← bM.out] at ho;replace HO_0:=ak_ (Kd.V_afterv (ok:=(fun k_=>(P0_ k_∨w.heap.size≤k_)∧k_≠aE)) (Kd.V_mono (va_ HO_0) (fun _ hk=>⟨⟨hk.1,hk.2.2⟩,hk.2.1⟩)) hg hat);replace aC:=ak_ (blk_grown (g:=aE) (o:=.cells #[.string aD,.string aG] 39 (0,0)) (bk_ aC) hg (Kd.R_away HO_6.out (fun _ hk=>hk.2)));replace HB:=ak_ (hb);have aI:=ak_ (ho);clear HO_6;clear ho hb hg hat;have aJ:0≤(aA:Int):=od_;have aK:aA<(l0.length:Int):=od_;obtain⟨bB,bC,cI,cJ⟩:=at_T39 (Kd.V_reads' HO_0.out).2.2 aA aJ aK;obtain rfl:aV=bB:=(by injection bC);replace aJ:=eq_true aJ;replace aK:=eq_true aK)|((with_reducible refine gate_builtin (b:=.append) (xs:=#[.tmp 41,.tmp 46]) rfl ?_);at_builtin;refine Kd.R_append k39 (w0:=w) w.heap.size rfl (.tmp 41) (.tmp 46) 23 39 (.agg #[(.string ⟨#[]⟩),(.string ⟨#[]⟩)]) 32 rfl Tryz.underlying23 info39 rfl (by decide) (by omega) bA aM (⟨(rd_T39 l0 aA).f0,(rd_T39 l0 aA).f1⟩:S39) [.string ((rd_T39 l0 aA).f0),.string ((rd_T39 l0 aA).f1)] (fun k_=>(w.heap.size≤k_)∧k_≠aE) (fun _=>False) rfl rfl ?aP (fun _ hk=>hk.elim) ?aF ?aO ?aB ?aS ?aL ?_;(case aP=>exact k39_mkM _ _ _ (⟨(rd_T39 l0 aA).f0,(rd_T39 l0 aA).f1⟩:S39));(case aB=>exact hs_);(case aF=>exact (fun k_ hk=>⟨(Nat.le_trans hsz_ hk),Kd.freshB (g:=aE) (o:=.cells #[.string aD,.string aG] 39 (0,0)) (bk_ aC) k_ hk⟩));(case aO=>exact (ra_ aI));(case aS=>exact hsz_);(case aL=>have:=bN.out;omega);intro cK w21 ho hb hg hat;rw [← bO.out] at ho;replace HO_0:=ak_ (Kd.V_afterv (ok:=(fun k_=>(P0_ k_∨w.heap.size≤k_)∧k_≠aE)) (va_ HO_0) hg hat);replace aC:=ak_ (blk_grown (g:=aE) (o:=.cells #[.string aD,.string aG] 39 (0,0)) (bk_ aC) hg (Kd.R_away aI.out (fun _ hk=>hk.2)));replace HB:=ak_ (hb);have bP:=ak_ (ho);clear aI;clear ho hb hg hat))
             repeat (go_quiet (first|((with_reducible refine gate_builtin (b:=.append) (xs:=#[.tmp 37,.tmp 39]) rfl ?_);at_builtin;refine Kd.R_append k39 (w0:=w) w.heap.size rfl (.tmp 37) (.tmp 39) 23 39 (.agg #[(.string ⟨#[]⟩),(.string ⟨#[]⟩)]) 32 rfl Tryz.underlying23 info39 rfl (by decide) (by omega) u6 aH (⟨aD,aG⟩:S39) [.string aD,.string aG] (fun k_=>(w.heap.size≤k_)∧k_≠aE) (fun _=>False) rfl rfl ?aP (fun _ hk=>hk.elim) ?aF ?aO ?aB ?aS ?aL ?_;(case aP=>exact k39_mkM _ _ _ (⟨aD,aG⟩:S39));(case aB=>exact hs_);(case aF=>exact (fun k_ hk=>⟨(Nat.le_trans hsz_ hk),Kd.freshB (g:=aE) (o:=.cells #[.string aD,.string aG] 39 (0,0)) (bk_ aC) k_ hk⟩));(case aO=>exact (ra_ HO_6));(case aS=>exact hsz_);(case aL=>have:=bL.out;omega);intro bA w20 ho hb hg hat;rw [← bM.out] at ho;replace HO_0:=ak_ (Kd.V_afterv (ok:=(fun k_=>(P0_ k_∨w.heap.size≤k_)∧k_≠aE)) (Kd.V_mono (va_ HO_0) (fun _ hk=>⟨⟨hk.1,hk.2.2⟩,hk.2.1⟩)) hg hat);replace aC:=ak_ (blk_grown (g:=aE) (o:=.cells #[.string aD,.string aG] 39 (0,0)) (bk_ aC) hg (Kd.R_away HO_6.out (fun _ hk=>hk.2)));replace HB:=ak_ (hb);have aI:=ak_ (ho);clear HO_6;clear ho hb hg hat;have aJ:0≤(aA:Int):=od_;have aK:aA<(l0.length:Int):=od_;obtain⟨bB,bC,cI,cJ⟩:=at_T39 (Kd.V_reads' HO_0.out).2.2 aA aJ aK;obtain rfl:aV=bB:=(by injection bC);replace aJ:=eq_true aJ;replace aK:=eq_true aK)|((with_reducible refine gate_builtin (b:=.append) (xs:=#[.tmp 41,.tmp 46]) rfl ?_);at_builtin;refine Kd.R_append k39 (w0:=w) w.heap.size rfl (.tmp 41) (.tmp 46) 23 39 (.agg #[(.string ⟨#[]⟩),(.string ⟨#[]⟩)]) 32 rfl Tryz.underlying23 info39 rfl (by decide) (by omega) bA aM (⟨(rd_T39 l0 aA).f0,(rd_T39 l0 aA).f1⟩:S39) [.string ((rd_T39 l0 aA).f0),.string ((rd_T39 l0 aA).f1)] (fun k_=>(w.heap.size≤k_)∧k_≠aE) (fun _=>False) rfl rfl ?aP (fun _ hk=>hk.elim) ?aF ?aO ?aB ?aS ?aL ?_;(case aP=>exact k39_mkM _ _ _ (⟨(rd_T39 l0 aA).f0,(rd_T39 l0 aA).f1⟩:S39));(case aB=>exact hs_);(case aF=>exact (fun k_ hk=>⟨(Nat.le_trans hsz_ hk),Kd.freshB (g:=aE) (o:=.cells #[.string aD,.string aG] 39 (0,0)) (bk_ aC) k_ hk⟩));(case aO=>exact (ra_ aI));(case aS=>exact hsz_);(case aL=>have:=bN.out;omega);intro cK w21 ho hb hg hat;rw [← bO.out] at ho;replace HO_0:=ak_ (Kd.V_afterv (ok:=(fun k_=>(P0_ k_∨w.heap.size≤k_)∧k_≠aE)) (va_ HO_0) hg hat);replace aC:=ak_ (blk_grown (g:=aE) (o:=.cells #[.string aD,.string aG] 39 (0,0)) (bk_ aC) hg (Kd.R_away aI.out (fun _ hk=>hk.2)));replace HB:=ak_ (hb);have bP:=ak_ (ho);clear aI;clear ho hb hg hat));try go_wp2_with (first|((with_reducible refine gate_builtin (b:=.append) (xs:=#[.tmp 37,.tmp 39]) rfl ?_);at_builtin;refine Kd.R_append k39 (w0:=w) w.heap.size rfl (.tmp 37) (.tmp 39) 23 39 (.agg #[(.string ⟨#[]⟩),(.string ⟨#[]⟩)]) 32 rfl Tryz.underlying23 info39 rfl (by decide) (by omega) u6 aH (⟨aD,aG⟩:S39) [.string aD,.string aG] (fun k_=>(w.heap.size≤k_)∧k_≠aE) (fun _=>False) rfl rfl ?aP (fun _ hk=>hk.elim) ?aF ?aO ?aB ?aS ?aL ?_;(case aP=>exact k39_mkM _ _ _ (⟨aD,aG⟩:S39));(case aB=>exact hs_);(case aF=>exact (fun k_ hk=>⟨(Nat.le_trans hsz_ hk),Kd.freshB (g:=aE) (o:=.cells #[.string aD,.string aG] 39 (0,0)) (bk_ aC) k_ hk⟩));(case aO=>exact (ra_ HO_6));(case aS=>exact hsz_);(case aL=>have:=bL.out;omega);intro bA w20 ho hb hg hat;rw [← bM.out] at ho;replace HO_0:=ak_ (Kd.V_afterv (ok:=(fun k_=>(P0_ k_∨w.heap.size≤k_)∧k_≠aE)) (Kd.V_mono (va_ HO_0) (fun _ hk=>⟨⟨hk.1,hk.2.2⟩,hk.2.1⟩)) hg hat);replace aC:=ak_ (blk_grown (g:=aE) (o:=.cells #[.string aD,.string aG] 39 (0,0)) (bk_ aC) hg (Kd.R_away HO_6.out (fun _ hk=>hk.2)));replace HB:=ak_ (hb);have aI:=ak_ (ho);clear HO_6;clear ho hb hg hat;have aJ:0≤(aA:Int):=od_;have aK:aA<(l0.length:Int):=od_;obtain⟨bB,bC,cI,cJ⟩:=at_T39 (Kd.V_reads' HO_0.out).2.2 aA aJ aK;obtain rfl:aV=bB:=(by injection bC);replace aJ:=eq_true aJ;replace aK:=eq_true aK)|((with_reducible refine gate_builtin (b:=.append) (xs:=#[.tmp 41,.tmp 46]) rfl ?_);at_builtin;refine Kd.R_append k39 (w0:=w) w.heap.size rfl (.tmp 41) (.tmp 46) 23 39 (.agg #[(.string ⟨#[]⟩),(.string ⟨#[]⟩)]) 32 rfl Tryz.underlying23 info39 rfl (by decide) (by omega) bA aM (⟨(rd_T39 l0 aA).f0,(rd_T39 l0 aA).f1⟩:S39) [.string ((rd_T39 l0 aA).f0),.string ((rd_T39 l0 aA).f1)] (fun k_=>(w.heap.size≤k_)∧k_≠aE) (fun _=>False) rfl rfl ?aP (fun _ hk=>hk.elim) ?aF ?aO ?aB ?aS ?aL ?_;(case aP=>exact k39_mkM _ _ _ (⟨(rd_T39 l0 aA).f0,(rd_T39 l0 aA).f1⟩:S39));(case aB=>exact hs_);(case aF=>exact (fun k_ hk=>⟨(Nat.le_trans hsz_ hk),Kd.freshB (g:=aE) (o:=.cells #[.string aD,.string aG] 39 (0,0)) (bk_ aC) k_ hk⟩));(case aO=>exact (ra_ aI));(case aS=>exact hsz_);(case aL=>have:=bN.out;omega);intro cK w21 ho hb hg hat;rw [← bO.out] at ho;replace HO_0:=ak_ (Kd.V_afterv (ok:=(fun k_=>(P0_ k_∨w.heap.size≤k_)∧k_≠aE)) (va_ HO_0) hg hat);replace aC:=ak_ (blk_grown (g:=aE) (o:=.cells #[.string aD,.string aG] 39 (0,0)) (bk_ aC) hg (Kd.R_away aI.out (fun _ hk=>hk.2)));replace HB:=ak_ (hb);have bP:=ak_ (ho);clear aI;clear ho hb hg hat)))
             go_roundg kj9
             case measure=>have:=HK1.out;have:=HJ9.out;omega
             case rel=>exact ⟨(cH),(true),(wrap64 (aA+1)),rr_,rr_,H',⟨by have:=HK1.out;have:=HJ9.out;omega⟩,⟨Kd.V_mono (va_ HO_0) (fun _ hk=>⟨hk.1.1,⟨hk.2,hk.1.2⟩⟩)⟩,⟨by(with_reducible repeat (first|apply Kd.R_alloc|apply Kd.R_drewN|apply Kd.R_drew));exact bP.out⟩,⟨bk_ aC⟩,⟨hs_⟩⟩
            ·rw [if_neg c18] at H
             exact absurd H (by simp)
           ·rw [if_neg c17] at H
            exact absurd H (by simp)
          ·rw [if_neg c16] at H
           exact absurd H (by simp)
         ·rw [if_neg c15] at H
          exact absurd H (by simp)
        ·replace c14:=Bool.eq_false_iff.mpr c14
         subst c14;replace H:=if_f_ H;by_cases c22:0≤aA
         ·rw [if_pos c22] at H
          have c22b0:decide (0≤aA)=true:=decide_eq_true c22;clear c22;by_cases c23:aA<(l0.length:Int)
          ·rw [if_pos c23] at H
           have c23b0:decide (aA<(l0.length:Int))=true:=decide_eq_true c23;clear c23;by_cases c24:aH.length<4398046511104
           ·rw [if_pos c24] at H
            have bQ:=ak_ c24;clear c24;obtain⟨cL,bD⟩:∃ y_:List (S39),y_=(aH++[(⟨(rd_T39 l0 aA).f0,(rd_T39 l0 aA).f1⟩:S39)]):=⟨_,rfl⟩;replace H:(i7_putKey.l0 kj9 l0 cL aQ (wrap64 (aA+1)) aD aG)=some (r1,r2):=by first|(rw [bD];with_reducible exact H)|(have H2_:=(Option.bind_some _ _).symm.trans H;rw [bD];with_reducible exact H2_)|(have H2_:=(Option.bind_some _ _).symm.trans H;with_reducible exact H2_)|with_reducible exact H|(rw [bD];exact H)|exact H
            have bR:=ak_ bD;clear bD;have H':=ak_ H;clear H;have bS:0≤(aA:Int):=od_;have bT:aA<(l0.length:Int):=od_;obtain⟨cV,cW,dM,dN⟩:=at_T39 (Kd.V_reads' HO_0.out).2.2 aA bS bT;obtain rfl:aV=cV:=(by injection cW)
            replace bS:=eq_true bS;replace bT:=eq_true bT
            go_wp2_with (first|((with_reducible refine gate_builtin (b:=.append) (xs:=#[.tmp 41,.tmp 46]) rfl ?_);at_builtin;refine Kd.R_append k39 (w0:=w) w.heap.size rfl (.tmp 41) (.tmp 46) 23 39 (.agg #[(.string ⟨#[]⟩),(.string ⟨#[]⟩)]) 32 rfl Tryz.underlying23 info39 rfl (by decide) (by omega) u6 aH (⟨(rd_T39 l0 aA).f0,(rd_T39 l0 aA).f1⟩:S39) [.string ((rd_T39 l0 aA).f0),.string ((rd_T39 l0 aA).f1)] (fun k_=>(w.heap.size≤k_)∧k_≠aE) (fun _=>False) rfl rfl ?aP (fun _ hk=>hk.elim) ?aF ?aO ?aB ?aS ?aL ?_;(case aP=>exact k39_mkM _ _ _ (⟨(rd_T39 l0 aA).f0,(rd_T39 l0 aA).f1⟩:S39));(case aB=>exact hs_);(case aF=>exact (fun k_ hk=>⟨(Nat.le_trans hsz_ hk),Kd.freshB (g:=aE) (o:=.cells #[.string aD,.string aG] 39 (0,0)) (bk_ aC) k_ hk⟩));(case aO=>exact (ra_ HO_6));(case aS=>exact hsz_);(case aL=>have:=bQ.out;omega);intro cM w25 ho hb hg hat;rw [← bR.out] at ho;replace HO_0:=ak_ (Kd.V_afterv (ok:=(fun k_=>(P0_ k_∨w.heap.size≤k_)∧k_≠aE)) (Kd.V_mono (va_ HO_0) (fun _ hk=>⟨⟨hk.1,hk.2.2⟩,hk.2.1⟩)) hg hat);replace aC:=ak_ (blk_grown (g:=aE) (o:=.cells #[.string aD,.string aG] 39 (0,0)) (bk_ aC) hg (Kd.R_away HO_6.out (fun _ hk=>hk.2)));replace HB:=ak_ (hb);have bU:=ak_ (ho);clear HO_6;clear ho hb hg hat))
            repeat (go_quiet (first|((with_reducible refine gate_builtin (b:=.append) (xs:=#[.tmp 41,.tmp 46]) rfl ?_);at_builtin;refine Kd.R_append k39 (w0:=w) w.heap.size rfl (.tmp 41) (.tmp 46) 23 39 (.agg #[(.string ⟨#[]⟩),(.string ⟨#[]⟩)]) 32 rfl Tryz.underlying23 info39 rfl (by decide) (by omega) u6 aH (⟨(rd_T39 l0 aA).f0,(rd_T39 l0 aA).f1⟩:S39) [.string ((rd_T39 l0 aA).f0),.string ((rd_T39 l0 aA).f1)] (fun k_=>(w.heap.size≤k_)∧k_≠aE) (fun _=>False) rfl rfl ?aP (fun _ hk=>hk.elim) ?aF ?aO ?aB ?aS ?aL ?_;(case aP=>exact k39_mkM _ _ _ (⟨(rd_T39 l0 aA).f0,(rd_T39 l0 aA).f1⟩:S39));(case aB=>exact hs_);(case aF=>exact (fun k_ hk=>⟨(Nat.le_trans hsz_ hk),Kd.freshB (g:=aE) (o:=.cells #[.string aD,.string aG] 39 (0,0)) (bk_ aC) k_ hk⟩));(case aO=>exact (ra_ HO_6));(case aS=>exact hsz_);(case aL=>have:=bQ.out;omega);intro cM w25 ho hb hg hat;rw [← bR.out] at ho;replace HO_0:=ak_ (Kd.V_afterv (ok:=(fun k_=>(P0_ k_∨w.heap.size≤k_)∧k_≠aE)) (Kd.V_mono (va_ HO_0) (fun _ hk=>⟨⟨hk.1,hk.2.2⟩,hk.2.1⟩)) hg hat);replace aC:=ak_ (blk_grown (g:=aE) (o:=.cells #[.string aD,.string aG] 39 (0,0)) (bk_ aC) hg (Kd.R_away HO_6.out (fun _ hk=>hk.2)));replace HB:=ak_ (hb);have bU:=ak_ (ho);clear HO_6;clear ho hb hg hat));try go_wp2_with (first|((with_reducible refine gate_builtin (b:=.append) (xs:=#[.tmp 41,.tmp 46]) rfl ?_);at_builtin;refine Kd.R_append k39 (w0:=w) w.heap.size rfl (.tmp 41) (.tmp 46) 23 39 (.agg #[(.string ⟨#[]⟩),(.string ⟨#[]⟩)]) 32 rfl Tryz.underlying23 info39 rfl (by decide) (by omega) u6 aH (⟨(rd_T39 l0 aA).f0,(rd_T39 l0 aA).f1⟩:S39) [.string ((rd_T39 l0 aA).f0),.string ((rd_T39 l0 aA).f1)] (fun k_=>(w.heap.size≤k_)∧k_≠aE) (fun _=>False) rfl rfl ?aP (fun _ hk=>hk.elim) ?aF ?aO ?aB ?aS ?aL ?_;(case aP=>exact k39_mkM _ _ _ (⟨(rd_T39 l0 aA).f0,(rd_T39 l0 aA).f1⟩:S39));(case aB=>exact hs_);(case aF=>exact (fun k_ hk=>⟨(Nat.le_trans hsz_ hk),Kd.freshB (g:=aE) (o:=.cells #[.string aD,.string aG] 39 (0,0)) (bk_ aC) k_ hk⟩));(case aO=>exact (ra_ HO_6));(case aS=>exact hsz_);(case aL=>have:=bQ.out;omega);intro cM w25 ho hb hg hat;rw [← bR.out] at ho;replace HO_0:=ak_ (Kd.V_afterv (ok:=(fun k_=>(P0_ k_∨w.heap.size≤k_)∧k_≠aE)) (Kd.V_mono (va_ HO_0) (fun _ hk=>⟨⟨hk.1,hk.2.2⟩,hk.2.1⟩)) hg hat);replace aC:=ak_ (blk_grown (g:=aE) (o:=.cells #[.string aD,.string aG] 39 (0,0)) (bk_ aC) hg (Kd.R_away HO_6.out (fun _ hk=>hk.2)));replace HB:=ak_ (hb);have bU:=ak_ (ho);clear HO_6;clear ho hb hg hat)))
            go_roundg kj9
            case measure=>have:=HK1.out;have:=HJ9.out;omega
            case rel=>exact ⟨(cL),(aQ),(wrap64 (aA+1)),rr_,rr_,H',⟨by have:=HK1.out;have:=HJ9.out;omega⟩,⟨Kd.V_mono (va_ HO_0) (fun _ hk=>⟨hk.1.1,⟨hk.2,hk.1.2⟩⟩)⟩,⟨by(with_reducible repeat (first|apply Kd.R_alloc|apply Kd.R_drewN|apply Kd.R_drew));exact bU.out⟩,⟨bk_ aC⟩,⟨hs_⟩⟩
           ·rw [if_neg c24] at H
            exact absurd H (by simp)
          ·rw [if_neg c23] at H
           exact absurd H (by simp)
         ·rw [if_neg c22] at H
          exact absurd H (by simp)
    ·rw [if_neg c7] at H
     exact absurd H (by simp)
   ·rw [if_neg c6] at H
    have cC:decide (aA<(l0.length:Int))=false:=decide_eq_false c6;clear c6;by_cases c26:aQ=true
    ·subst c26
     replace H:=it_ H;simp only [Option.some.injEq,Prod.mk.injEq] at H;obtain⟨rfl,rfl⟩:=H
     go_wp2
     repeat (go_quiet (fail);try go_wp2)
     go_ret2
     exact⟨_,re_,Kd.V_mono (Kd.R_V (Kd.R_mono (ra_ HO_6) (fun _ hk=>hk.1))) (fun k_ hk=>by first|exact⟨(.inr (hk.1)),hk.2⟩|exact(.inr (hk))),hs_⟩
    ·replace c26:=Bool.eq_false_iff.mpr c26
     subst c26;replace H:=if_f_ H;by_cases c27:aH.length<4398046511104
     ·rw [if_pos c27] at H
      have bV:=ak_ c27;clear c27;obtain⟨cX,bE⟩:∃ y_:List (S39),y_=(aH++[(⟨aD,aG⟩:S39)]):=⟨_,rfl⟩;replace H:(some (cX,true))=some (r1,r2):=by first|(rw [bE];with_reducible exact H)|(have H2_:=(Option.bind_some _ _).symm.trans H;rw [bE];with_reducible exact H2_)|(have H2_:=(Option.bind_some _ _).symm.trans H;with_reducible exact H2_)|with_reducible exact H|(rw [bE];exact H)|exact H
      have bW:=ak_ bE;clear bE;simp only [Option.some.injEq,Prod.mk.injEq] at H;obtain⟨rfl,rfl⟩:=H;have dO:wr.cell? ⟨aE,0,none⟩=some (.string aD):=(blk_cell aC.out 0).trans rfl;have dP:wr.cell? ⟨aE,1,none⟩=some (.string aG):=(blk_cell aC.out 1).trans rfl;have dQ:=blk_frozen aC.out 0;have dR:=blk_frozen aC.out 1
      go_wp2_with (first|((with_reducible refine gate_builtin (b:=.append) (xs:=#[.tmp 50,.tmp 52]) rfl ?_);at_builtin;refine Kd.R_append k39 (w0:=w) w.heap.size rfl (.tmp 50) (.tmp 52) 23 39 (.agg #[(.string ⟨#[]⟩),(.string ⟨#[]⟩)]) 32 rfl Tryz.underlying23 info39 rfl (by decide) (by omega) u6 aH (⟨aD,aG⟩:S39) [.string aD,.string aG] (fun k_=>(w.heap.size≤k_)∧k_≠aE) (fun _=>False) rfl rfl ?aP (fun _ hk=>hk.elim) ?aF ?aO ?aB ?aS ?aL ?_;(case aP=>exact k39_mkM _ _ _ (⟨aD,aG⟩:S39));(case aB=>exact hs_);(case aF=>exact (fun k_ hk=>⟨(Nat.le_trans hsz_ hk),Kd.freshB (g:=aE) (o:=.cells #[.string aD,.string aG] 39 (0,0)) (bk_ aC) k_ hk⟩));(case aO=>exact (ra_ HO_6));(case aS=>exact hsz_);(case aL=>have:=bV.out;omega);intro cN w29 ho hb hg hat;rw [← bW.out] at ho;replace HO_0:=ak_ (Kd.V_afterv (ok:=(fun k_=>(P0_ k_∨w.heap.size≤k_)∧k_≠aE)) (Kd.V_mono (va_ HO_0) (fun _ hk=>⟨⟨hk.1,hk.2.2⟩,hk.2.1⟩)) hg hat);replace aC:=ak_ (blk_grown (g:=aE) (o:=.cells #[.string aD,.string aG] 39 (0,0)) (bk_ aC) hg (Kd.R_away HO_6.out (fun _ hk=>hk.2)));replace HB:=ak_ (hb);have bX:=ak_ (ho);clear HO_6;clear ho hb hg hat))
      repeat (go_quiet (first|((with_reducible refine gate_builtin (b:=.append) (xs:=#[.tmp 50,.tmp 52]) rfl ?_);at_builtin;refine Kd.R_append k39 (w0:=w) w.heap.size rfl (.tmp 50) (.tmp 52) 23 39 (.agg #[(.string ⟨#[]⟩),(.string ⟨#[]⟩)]) 32 rfl Tryz.underlying23 info39 rfl (by decide) (by omega) u6 aH (⟨aD,aG⟩:S39) [.string aD,.string aG] (fun k_=>(w.heap.size≤k_)∧k_≠aE) (fun _=>False) rfl rfl ?aP (fun _ hk=>hk.elim) ?aF ?aO ?aB ?aS ?aL ?_;(case aP=>exact k39_mkM _ _ _ (⟨aD,aG⟩:S39));(case aB=>exact hs_);(case aF=>exact (fun k_ hk=>⟨(Nat.le_trans hsz_ hk),Kd.freshB (g:=aE) (o:=.cells #[.string aD,.string aG] 39 (0,0)) (bk_ aC) k_ hk⟩));(case aO=>exact (ra_ HO_6));(case aS=>exact hsz_);(case aL=>have:=bV.out;omega);intro cN w29 ho hb hg hat;rw [← bW.out] at ho;replace HO_0:=ak_ (Kd.V_afterv (ok:=(fun k_=>(P0_ k_∨w.heap.size≤k_)∧k_≠aE)) (Kd.V_mono (va_ HO_0) (fun _ hk=>⟨⟨hk.1,hk.2.2⟩,hk.2.1⟩)) hg hat);replace aC:=ak_ (blk_grown (g:=aE) (o:=.cells #[.string aD,.string aG] 39 (0,0)) (bk_ aC) hg (Kd.R_away HO_6.out (fun _ hk=>hk.2)));replace HB:=ak_ (hb);have bX:=ak_ (ho);clear HO_6;clear ho hb hg hat));try go_wp2_with (first|((with_reducible refine gate_builtin (b:=.append) (xs:=#[.tmp 50,.tmp 52]) rfl ?_);at_builtin;refine Kd.R_append k39 (w0:=w) w.heap.size rfl (.tmp 50) (.tmp 52) 23 39 (.agg #[(.string ⟨#[]⟩),(.string ⟨#[]⟩)]) 32 rfl Tryz.underlying23 info39 rfl (by decide) (by omega) u6 aH (⟨aD,aG⟩:S39) [.string aD,.string aG] (fun k_=>(w.heap.size≤k_)∧k_≠aE) (fun _=>False) rfl rfl ?aP (fun _ hk=>hk.elim) ?aF ?aO ?aB ?aS ?aL ?_;(case aP=>exact k39_mkM _ _ _ (⟨aD,aG⟩:S39));(case aB=>exact hs_);(case aF=>exact (fun k_ hk=>⟨(Nat.le_trans hsz_ hk),Kd.freshB (g:=aE) (o:=.cells #[.string aD,.string aG] 39 (0,0)) (bk_ aC) k_ hk⟩));(case aO=>exact (ra_ HO_6));(case aS=>exact hsz_);(case aL=>have:=bV.out;omega);intro cN w29 ho hb hg hat;rw [← bW.out] at ho;replace HO_0:=ak_ (Kd.V_afterv (ok:=(fun k_=>(P0_ k_∨w.heap.size≤k_)∧k_≠aE)) (Kd.V_mono (va_ HO_0) (fun _ hk=>⟨⟨hk.1,hk.2.2⟩,hk.2.1⟩)) hg hat);replace aC:=ak_ (blk_grown (g:=aE) (o:=.cells #[.string aD,.string aG] 39 (0,0)) (bk_ aC) hg (Kd.R_away HO_6.out (fun _ hk=>hk.2)));replace HB:=ak_ (hb);have bX:=ak_ (ho);clear HO_6;clear ho hb hg hat)))
      go_ret2
      exact⟨_,re_,Kd.V_mono (Kd.R_V (Kd.R_mono (ra_ bX) (fun _ hk=>hk.1))) (fun k_ hk=>by first|exact⟨(.inr (hk.1)),hk.2⟩|exact(.inr (hk))),hs_⟩
     ·rw [if_neg c27] at H
      exact absurd H (by simp)
mutual
def tag_text.j0:Nat→List ByteArray→ByteArray→ByteArray→ByteArray→List ByteArray→List (S39)→Option (ByteArray)
 |0,_,_,_,_,_,_=>none
 |k+1,x3,bC,aX,aY,aZ,aW=>if aX.toList=([]:List UInt8) then(tag_text.j1 k x3 bC aX aY aZ aW) else(if x3.length<8796093022208 then(tag_text.j1 k (x3++[aX]) bC aX aY aZ aW) else(none))
def tag_text.j1:Nat→List ByteArray→ByteArray→ByteArray→ByteArray→List ByteArray→List (S39)→Option (ByteArray)
 |0,_,_,_,_,_,_=>none
 |k+1,x3,bC,aX,aY,aZ,aW=>if aY.toList=([]:List UInt8) then(tag_text.j2 k x3 bC aX aY aZ aW) else(if x3.length<8796093022208 then(tag_text.j2 k (x3++[aY]) bC aX aY aZ aW) else(none))
def tag_text.j2:Nat→List ByteArray→ByteArray→ByteArray→ByteArray→List ByteArray→List (S39)→Option (ByteArray)
 |0,_,_,_,_,_,_=>none
 |k+1,x3,bC,aX,aY,aZ,aW=>if x3.length+aZ.length<8796093022208 then((some (x3++aZ:List ByteArray)).bind fun bA=>(if (aW.length:Int)>0 then(if bA.length<8796093022208 then(tag_text.j3 k (bA++[(⟨#[117]⟩:ByteArray)]) bC aX aY aZ aW) else(none)) else(tag_text.j3 k bA bC aX aY aZ aW))) else(none)
def tag_text.j3:Nat→List ByteArray→ByteArray→ByteArray→ByteArray→List ByteArray→List (S39)→Option (ByteArray)
 |0,_,_,_,_,_,_=>none
 |k+1,x3,bC,aX,aY,aZ,aW=>tag_text.l0 k x3 aW (aW.length:Int) 0
def tag_text.l0:Nat→List ByteArray→List (S39)→Int→Int→Option (ByteArray)
 |0,_,_,_,_=>none
 |k+1,x3,x42,x43,x44=>if x44<x43 then(if 0≤x44 then(if x44<(x42.length:Int) then(if x3.length<8796093022208 then((some (x3++[(rd_T39 x42 x44).f0]:List ByteArray)).bind fun bB=>(if ((rd_T39 x42 x44).f1).toList=([]:List UInt8) then(tag_text.l0 k bB x42 x43 (wrap64 (x44+1))) else(if bB.length<8796093022208 then(tag_text.l0 k (bB++[(rd_T39 x42 x44).f1]) x42 x43 (wrap64 (x44+1))) else(none)))) else(none)) else(none)) else(none)) else((strings_Join.f x3 (⟨#[45]⟩:ByteArray)).bind fun cD=>(some cD))
end
def tag_text.f (k:Nat) (aE:ByteArray) (aH:ByteArray) (aI:ByteArray) (aG:List ByteArray) (aA:List (S39)):Option (ByteArray):=(some (([aE]:List ByteArray):List ByteArray)).bind fun aK=>(if aE.toList=([]:List UInt8) then(if 0<(aK.length:Int) then(tag_text.j0 k (aK.set (0:Int).toNat (⟨#[117,110,100]⟩:ByteArray)) aE aH aI aG aA) else(none)) else(tag_text.j0 k aK aE aH aI aG aA))
set_option maxHeartbeats 8000000 in
set_option maxRecDepth 100000 in
theorem tag_text.calls (k:Nat) (aE:ByteArray) (aH:ByteArray) (aI:ByteArray) (aM:Option Addr) (aN:Nat) (aG:List ByteArray) (aU:Option Addr) (aQ:Nat) (aA:List (S39)) (r:ByteArray) (w:World) (hr0_3:Kd.C Kd.string w aM aG.length aG) (hc0_3:aG.length≤aN) (hr0_4:Kd.C k39 w aU aA.length aA) (hc0_4:aA.length≤aQ) (h:tag_text.f k aE aH aI aG aA=some r):
 Calls Tryz.prog 40 #[.agg #[.string aE,.string aH,.string aI,.slice aM aG.length aN,.slice aU aA.length aQ]] w fun e w'=>e=.returned (.string r)∧Below w.heap.size w w':=by
 have hu25:=Tryz.underlying25;have hu39:=Tryz.underlying39;have dF:=ak_ hr0_3;have HC0_3:=ak_ hc0_3;clear hr0_3 hc0_3;have cR:=ak_ hr0_4;have HC0_4:=ak_ hc0_4;clear hr0_4 hc0_4;have HB:=ak_ (Below.refl w.heap.size w);have H:((some (([aE]:List ByteArray):List ByteArray)).bind fun aK=>(if aE.toList=([]:List UInt8) then(if 0<(aK.length:Int) then(tag_text.j0 k (aK.set (0:Int).toNat (⟨#[117,110,100]⟩:ByteArray)) aE aH aI aG aA) else(none)) else(tag_text.j0 k aK aE aH aI aG aA)))=some r:=h;clear h;obtain⟨aK,bO⟩:∃ y_:List ByteArray,y_=(([aE]:List ByteArray)):=⟨_,rfl⟩;replace H:(if aE.toList=([]:List UInt8) then(if 0<(aK.length:Int) then(tag_text.j0 k (aK.set (0:Int).toNat (⟨#[117,110,100]⟩:ByteArray)) aE aH aI aG aA) else(none)) else(tag_text.j0 k aK aE aH aI aG aA))=some r:=by first|(rw [bO];with_reducible exact H)|(have H2_:=(Option.bind_some _ _).symm.trans H;rw [bO];with_reducible exact H2_)|(have H2_:=(Option.bind_some _ _).symm.trans H;with_reducible exact H2_)|with_reducible exact H|(rw [bO];exact H)|exact H
 have cS:=ak_ bO;clear bO;have HC2:=ak_ H;clear H
 go_enter Tryz.func40,Tryz.ntmps40
 go_upto_if 11 with (first|((with_reducible refine gate_dst (N:=1) rfl ?_);refine bx_ 1 #[.string aE,.string aH,.string aI,.slice aM aG.length aN,.slice aU aA.length aQ] 25 ?_;intro aV hg w3 hbox hb;have aC:=ak_ (hbox);have GW195:=ak_ (gw_ hg);have GE195:=ak_ (gw_ hg);replace HB:=ak_ (below_step hb_ hb);clear hb hbox hg;obtain⟨dG,dH,dI,dJ,dK,dL,dM,dN,dO,dP⟩:=c5_ aC)|((with_reducible refine gate_dst (N:=8) rfl ?_);refine Kd.R_lit Kd.string _ 9 ?hg (N:=8) ?hd (xs:=([aE]:List ByteArray)) (inner:=[.string aE]) (ok:=fun _=>True) (okp:=fun _=>True) ?hr ?hp (fun _ hk=>hk) trivial (Below.refl _ _) (Nat.le_refl _) (by simp) ?_;(case hd=>rfl);(case hg=>rfl);(case hr=>first|(go_simp;done)|(go_simp;rfl));(case hp=>exact (Reps.one (show Kd.M Kd.string _ _ _ aE [.string aE] from rfl) (Reps.none _ _)));intro cT w5 ho6 hb hg_ hnew_;clear hg_ hnew_;(first|rw [← cS.out] at ho6|(simp only [Int.reduceToNat] at ho6;rw [← cS.out] at ho6));have bE:=ak_ (Kd.R_lower ho6 hsz_);replace aC:=ak_ (bb_ aC hb);replace HB:=ak_ (below_step hs_ hb);clear hb ho6;obtain⟨dQ,dR,dS,dT,dU,dV,dW,dX,dY,dZ⟩:=c5_ aC))
 (try simp only [Act.put,List.setIfInBounds_toArray,List.set_cons_zero,List.set_cons_succ])
 go_cut [] (fun wc=>∃ (kq:Nat) (bF:List ByteArray),Aside0 (tag_text.j0 kq bF aE aH aI aG aA=some r)∧Aside0 (kq≤k)∧Aside0 (Kd.R Kd.string 9 wc w.heap.size (fun _=>True) cT bF)∧Aside0 (wc.heap[aV]?=some (.cells #[.string aE,.string aH,.string aI,(.slice aM aG.length aN),(.slice aU aA.length aQ)] 25 (0,0)))∧Aside0 (Below w.heap.size w wc))
 case first=>
  have H:=HC2.out;clear HC2;by_cases c8:aE.toList=([]:List UInt8)
  ·rw [if_pos c8] at H
   obtain⟨bP,cE,cF⟩:=eq3_ c8;clear c8
   (first|rw [bP]|rw [cE]|rw [cF]|(simp only [i64_w,i32_w];rw [bP])|skip)
   (try simp only [Bool.not_true,Bool.not_false])
   by_cases c9:0<(aK.length:Int)
   ·rw [if_pos c9] at H
    have c9b0:decide (0<(aK.length:Int))=true:=decide_eq_true c9;have c9b1:decide (0<aK.length)=true:=decide_eq_true (by omega)
    clear c9;obtain⟨cG,bQ⟩:∃ y_:List ByteArray,y_=(aK.set (0:Int).toNat (⟨#[117,110,100]⟩:ByteArray)):=⟨_,rfl⟩;replace H:(tag_text.j0 k cG aE aH aI aG aA)=some r:=by first|(rw [bQ];with_reducible exact H)|(have H2_:=(Option.bind_some _ _).symm.trans H;rw [bQ];with_reducible exact H2_)|(have H2_:=(Option.bind_some _ _).symm.trans H;with_reducible exact H2_)|with_reducible exact H|(rw [bQ];exact H)|exact H
    have eA:=ak_ bQ;clear bQ;have H':=ak_ H;clear H;have p10:0≤(0:Int):=(by omega)
    have q10:(0:Int)<((aK.length:Int):Int):=od_;have qi10:(0<aK.length)=True:=eq_true (by omega)
    obtain⟨go10,eB,cU,cV,gl10,cl10,HG10⟩:=Kd.R_form bE.out (by omega)
    (first|cases cU|(injection cU with ea_ en_ ec_;(first|subst ea_|(injection ea_ with ea_;subst ea_));subst ec_;clear en_))
    have GB10:=ak_ cV;have GG10:=ak_ HG10;clear cV gl10 HG10;obtain⟨cW,hf10_0⟩:=Kd.R_celln (⟨#[]⟩:ByteArray) bE.out (0:Int) p10 q10
    (try rw [show ((0:Int)).toNat=0 from rfl] at cW)
    (try simp only [Nat.reduceMul,Nat.zero_mul,Nat.zero_add,Nat.reduceAdd] at cW)
    (try rw [show ((0:Int)).toNat=0 from rfl] at hf10_0)
    (try simp only [Nat.reduceMul,Nat.zero_mul,Nat.zero_add,Nat.reduceAdd] at hf10_0)
    replace p10:=eq_true p10;replace q10:=eq_true q10;have HP11:=Kd.R_putg bE.out (0:Int) (⟨#[117,110,100]⟩:ByteArray)
    go_wp2_with (first|((with_reducible refine gate_store (t:=9) (p:=13) rfl ?_);refine store_event (t:=9) (p:=13) (v:=?vo_w12) (w1:=(w5.setCell ⟨go10,(0:Int).toNat,none⟩ (.string (⟨#[117,110,100]⟩:ByteArray)))) ?hg ?ho ?hn ?hr ?_;(case ho=>rfl);(case hg=>rfl);(case hn=>rfl);(case hr=>first|(go_simp;done)|(go_simp;rfl));intro w12 hw;have hg:w5.grownBy w12 (some go10):=(by rw [hw];exact HP11.2);have hp_:Kd.R Kd.string 9 w12 w.heap.size (fun _=>True) (.slice (some ⟨go10,0,none⟩) aK.length eB) cG:=(by rw [hw,eA.out];exact HP11.1);clear HP11;replace aC:=ak_ (blk_grown (g:=aV) (o:=.cells #[.string aE,.string aH,.string aI,.slice aM aG.length aN,.slice aU aA.length aQ] 25 (0,0)) (bk_ aC) hg (Kd.R_ne bE.out aC.out (by decide)));replace bE:=ak_ (hp_);replace HB:=ak_ ((by rw [hw];exact below_set (HB.out) GB10.out:Below w.heap.size w w12));clear hg hw hp_))
    go_meet
    case rel=>exact ⟨_,(cG),H',⟨by first|omega|exact Nat.le_refl _⟩,⟨by(with_reducible repeat (first|apply Kd.R_alloc|apply Kd.R_drewN|apply Kd.R_drew));exact bE.out⟩,⟨bk_ aC⟩,⟨hs_⟩⟩
   ·rw [if_neg c9] at H
    exact absurd H (by simp)
  ·rw [if_neg c8] at H
   obtain⟨bP,cE,cF⟩:=ne3_ c8
   (first|rw [bP]|rw [cE]|rw [cF]|(simp only [i64_w,i32_w];rw [bP])|skip)
   (try simp only [Bool.not_true,Bool.not_false])
   have H':=ak_ H;clear H
   go_wp2
   go_meet
   case rel=>exact ⟨_,(aK),H',⟨by first|omega|exact Nat.le_refl _⟩,⟨by(with_reducible repeat (first|apply Kd.R_alloc|apply Kd.R_drewN|apply Kd.R_drew));exact bE.out⟩,⟨bk_ aC⟩,⟨hs_⟩⟩
 case rest =>
  clear HC2;clear dG dH dI dJ dK dQ dR dS dT dU dL dM dN dO dP dV dW dX dY dZ;obtain⟨kq,bF,HA,HJ1,HO_3,aC,HB⟩:=hcut;cases kq with
  |zero=>exact absurd HA.out (by simp [tag_text.j0])
  | succ kj1 =>
   have H:=HA.out;clear HA;simp only [tag_text.j0] at H;have cH:=ak_ H;clear H;obtain⟨eC,eD,eE,eF,eG,eH,eI,eJ,eK,eL⟩:=c5_ aC
   go_upto_if 16 with (fail)
   go_cut [3] (fun v3 wc=>∃ (kq:Nat) (bG:List ByteArray),Aside0 (tag_text.j1 kq bG aE aH aI aG aA=some r)∧Aside0 (kq≤kj1)∧Aside0 (Kd.R Kd.string 9 wc w.heap.size (fun _=>True) v3 bG)∧Aside0 (wc.heap[aV]?=some (.cells #[.string aE,.string aH,.string aI,(.slice aM aG.length aN),(.slice aU aA.length aQ)] 25 (0,0)))∧Aside0 (Below w.heap.size w wc))
   case first=>
    have H:=cH.out;clear cH;by_cases c15:aH.toList=([]:List UInt8)
    ·rw [if_pos c15] at H
     obtain⟨bR,cI,cJ⟩:=eq3_ c15;clear c15
     (first|rw [bR]|rw [cI]|rw [cJ]|(simp only [i64_w,i32_w];rw [bR])|skip)
     (try simp only [Bool.not_true,Bool.not_false])
     have H':=ak_ H;clear H
     go_wp2
     go_meet
     case rel=>exact ⟨_,(bF),H',⟨by have:=HJ1.out;first|omega|exact Nat.le_refl _⟩,⟨by(with_reducible repeat (first|apply Kd.R_alloc|apply Kd.R_drewN|apply Kd.R_drew));exact HO_3.out⟩,⟨bk_ aC⟩,⟨hs_⟩⟩
    ·rw [if_neg c15] at H
     obtain⟨bR,cI,cJ⟩:=ne3_ c15
     (first|rw [bR]|rw [cI]|rw [cJ]|(simp only [i64_w,i32_w];rw [bR])|skip)
     (try simp only [Bool.not_true,Bool.not_false])
     by_cases c16:bF.length<8796093022208
     ·rw [if_pos c16] at H
      have eM:=ak_ c16;clear c16;obtain⟨cX,bS⟩:∃ y_:List ByteArray,y_=(bF++[aH]):=⟨_,rfl⟩;replace H:(tag_text.j1 kj1 cX aE aH aI aG aA)=some r:=by first|(rw [bS];with_reducible exact H)|(have H2_:=(Option.bind_some _ _).symm.trans H;rw [bS];with_reducible exact H2_)|(have H2_:=(Option.bind_some _ _).symm.trans H;with_reducible exact H2_)|with_reducible exact H|(rw [bS];exact H)|exact H
      have eN:=ak_ bS;clear bS;have H':=ak_ H;clear H;obtain⟨gZ,hA,hB,hC,hD,hE,hF,hG,hH,hI⟩:=c5_ aC
      go_wp2_with (first|((with_reducible refine gate_builtin (b:=.append) (xs:=#[.tmp 17,.tmp 20]) rfl ?_);at_builtin;refine Kd.R_append Kd.string (w0:=w) w.heap.size rfl (.tmp 17) (.tmp 20) 22 9 (.string ⟨#[]⟩) 16 rfl Tryz.underlying22 info9 rfl (by decide) (by omega) cT bF aH [.string aH] (fun _=>True) (fun _=>False) rfl rfl ?aP (fun _ hk=>hk.elim) ?aF ?aO ?aB ?aS ?aL ?_;(case aP=>exact rfl);(case aB=>exact hs_);(case aF=>exact (fun _ _=>trivial));(case aO=>exact (ra_ HO_3));(case aS=>exact hsz_);(case aL=>have:=eM.out;omega);intro v201 w18 ho hb hg hat;rw [← eN.out] at ho;replace aC:=ak_ (blk_grown (g:=aV) (o:=.cells #[.string aE,.string aH,.string aI,.slice aM aG.length aN,.slice aU aA.length aQ] 25 (0,0)) (bk_ aC) hg (Kd.R_ne HO_3.out aC.out (by decide)));replace HB:=ak_ (hb);have eO:=ak_ (ho);clear HO_3;clear ho hb hg hat))
      go_meet
      case rel=>exact ⟨_,(cX),H',⟨by have:=HJ1.out;first|omega|exact Nat.le_refl _⟩,⟨by(with_reducible repeat (first|apply Kd.R_alloc|apply Kd.R_drewN|apply Kd.R_drew));exact eO.out⟩,⟨bk_ aC⟩,⟨hs_⟩⟩
     ·rw [if_neg c16] at H
      exact absurd H (by simp)
   case rest =>
    clear cH;clear eC eD eE eF eG eH eI eJ eK eL;obtain⟨kq,bG,HA,HJ12,HO_3,aC,HB⟩:=hcut;cases kq with
    |zero=>exact absurd HA.out (by simp [tag_text.j1])
    | succ kj12 =>
     have H:=HA.out;clear HA;simp only [tag_text.j1] at H;have cK:=ak_ H;clear H;obtain⟨eP,eQ,eR,eS,eT,eU,eV,eW,eX,eY⟩:=c5_ aC
     go_upto_if 24 with (fail)
     go_cut [3] (fun v3 wc=>∃ (kq:Nat) (bM:List ByteArray),Aside0 (tag_text.j2 kq bM aE aH aI aG aA=some r)∧Aside0 (kq≤kj12)∧Aside0 (Kd.R Kd.string 9 wc w.heap.size (fun _=>True) v3 bM)∧Aside0 (wc.heap[aV]?=some (.cells #[.string aE,.string aH,.string aI,(.slice aM aG.length aN),(.slice aU aA.length aQ)] 25 (0,0)))∧Aside0 (Below w.heap.size w wc))
     case first=>
      have H:=cK.out;clear cK;by_cases c21:aI.toList=([]:List UInt8)
      ·rw [if_pos c21] at H
       obtain⟨bT,cL,cM⟩:=eq3_ c21;clear c21
       (first|rw [bT]|rw [cL]|rw [cM]|(simp only [i64_w,i32_w];rw [bT])|skip)
       (try simp only [Bool.not_true,Bool.not_false])
       have H':=ak_ H;clear H
       go_wp2
       go_meet
       case rel=>exact ⟨_,(bG),H',⟨by have:=HJ1.out;have:=HJ12.out;first|omega|exact Nat.le_refl _⟩,⟨by(with_reducible repeat (first|apply Kd.R_alloc|apply Kd.R_drewN|apply Kd.R_drew));exact HO_3.out⟩,⟨bk_ aC⟩,⟨hs_⟩⟩
      ·rw [if_neg c21] at H
       obtain⟨bT,cL,cM⟩:=ne3_ c21
       (first|rw [bT]|rw [cL]|rw [cM]|(simp only [i64_w,i32_w];rw [bT])|skip)
       (try simp only [Bool.not_true,Bool.not_false])
       by_cases c22:bG.length<8796093022208
       ·rw [if_pos c22] at H
        have eZ:=ak_ c22;clear c22;obtain⟨cY,bU⟩:∃ y_:List ByteArray,y_=(bG++[aI]):=⟨_,rfl⟩;replace H:(tag_text.j2 kj12 cY aE aH aI aG aA)=some r:=by first|(rw [bU];with_reducible exact H)|(have H2_:=(Option.bind_some _ _).symm.trans H;rw [bU];with_reducible exact H2_)|(have H2_:=(Option.bind_some _ _).symm.trans H;with_reducible exact H2_)|with_reducible exact H|(rw [bU];exact H)|exact H
        have fA:=ak_ bU;clear bU;have H':=ak_ H;clear H;obtain⟨hJ,hK,hL,hM,hN,hO,hP,hQ,hR,hS⟩:=c5_ aC
        go_wp2_with (first|((with_reducible refine gate_builtin (b:=.append) (xs:=#[.tmp 25,.tmp 28]) rfl ?_);at_builtin;refine Kd.R_append Kd.string (w0:=w) w.heap.size rfl (.tmp 25) (.tmp 28) 22 9 (.string ⟨#[]⟩) 16 rfl Tryz.underlying22 info9 rfl (by decide) (by omega) u3 bG aI [.string aI] (fun _=>True) (fun _=>False) rfl rfl ?aP (fun _ hk=>hk.elim) ?aF ?aO ?aB ?aS ?aL ?_;(case aP=>exact rfl);(case aB=>exact hs_);(case aF=>exact (fun _ _=>trivial));(case aO=>exact (ra_ HO_3));(case aS=>exact hsz_);(case aL=>have:=eZ.out;omega);intro v204 w24 ho hb hg hat;rw [← fA.out] at ho;replace aC:=ak_ (blk_grown (g:=aV) (o:=.cells #[.string aE,.string aH,.string aI,.slice aM aG.length aN,.slice aU aA.length aQ] 25 (0,0)) (bk_ aC) hg (Kd.R_ne HO_3.out aC.out (by decide)));replace HB:=ak_ (hb);have fB:=ak_ (ho);clear HO_3;clear ho hb hg hat))
        go_meet
        case rel=>exact ⟨_,(cY),H',⟨by have:=HJ1.out;have:=HJ12.out;first|omega|exact Nat.le_refl _⟩,⟨by(with_reducible repeat (first|apply Kd.R_alloc|apply Kd.R_drewN|apply Kd.R_drew));exact fB.out⟩,⟨bk_ aC⟩,⟨hs_⟩⟩
       ·rw [if_neg c22] at H
        exact absurd H (by simp)
     case rest =>
      clear cK;clear eP eQ eR eS eT eU eV eW eX eY;obtain⟨kq,bM,HA,HJ18,HO_3,aC,HB⟩:=hcut;cases kq with
      |zero=>exact absurd HA.out (by simp [tag_text.j2])
      | succ kj18 =>
       have H:=HA.out;clear HA;simp only [tag_text.j2] at H;by_cases c25:bM.length+aG.length<8796093022208
       ·rw [if_pos c25] at H
        have fC:=ak_ c25;clear c25;obtain⟨bA,bV⟩:∃ y_:List ByteArray,y_=(bM++aG):=⟨_,rfl⟩;replace H:(if (aA.length:Int)>0 then(if bA.length<8796093022208 then(tag_text.j3 kj18 (bA++[(⟨#[117]⟩:ByteArray)]) aE aH aI aG aA) else(none)) else(tag_text.j3 kj18 bA aE aH aI aG aA))=some r:=by first|(rw [bV];with_reducible exact H)|(have H2_:=(Option.bind_some _ _).symm.trans H;rw [bV];with_reducible exact H2_)|(have H2_:=(Option.bind_some _ _).symm.trans H;with_reducible exact H2_)|with_reducible exact H|(rw [bV];exact H)|exact H
        have fD:=ak_ bV;clear bV;have cN:=ak_ H;clear H;obtain⟨fE,fF,fG,fH,fI,fJ,fK,fL,fM,fN⟩:=c5_ aC
        go_upto_if 37 with (first|((with_reducible refine gate_builtin (b:=.append) (xs:=#[.tmp 30,.tmp 32]) rfl ?_);at_builtin;refine Kd.R_append_rows Kd.string (w0:=w) w.heap.size rfl (.tmp 30) (.tmp 32) 22 9 (.string ⟨#[]⟩) 16 rfl Tryz.underlying22 info9 rfl (by decide) (by omega) u3 bM aG _ _ _ (fun _=>True) (fun _=>False) rfl rfl ?aO ?aR (fun _ _ h=>h) (fun _ h=>h.elim) ?aF ?aB ?aS ?aL ?_;(case aR=>exact cb_ dF);(case aB=>exact hs_);(case aF=>exact (fun _ _=>trivial));(case aO=>exact (ra_ HO_3));(case aS=>exact hsz_);(case aL=>have:=fC.out;omega);intro fO w28 ho hb hg hat;rw [← fD.out] at ho;replace aC:=ak_ (blk_grown (g:=aV) (o:=.cells #[.string aE,.string aH,.string aI,.slice aM aG.length aN,.slice aU aA.length aQ] 25 (0,0)) (bk_ aC) hg (Kd.R_ne HO_3.out aC.out (by decide)));replace HB:=ak_ (hb);have cA:=ak_ (ho);clear HO_3;clear ho hb hg hat;obtain⟨fP,fQ,fR,fS,fT,fU,fV,fW,fX,fY⟩:=c5_ aC))
        (try simp only [Act.put,List.setIfInBounds_toArray,List.set_cons_zero,List.set_cons_succ])
        go_cut [3] (fun v3 wc=>∃ (kq:Nat) (cB:List ByteArray),Aside0 (tag_text.j3 kq cB aE aH aI aG aA=some r)∧Aside0 (kq≤kj18)∧Aside0 (Kd.R Kd.string 9 wc w.heap.size (fun _=>True) v3 cB)∧Aside0 (wc.heap[aV]?=some (.cells #[.string aE,.string aH,.string aI,(.slice aM aG.length aN),(.slice aU aA.length aQ)] 25 (0,0)))∧Aside0 (Below w.heap.size w wc))
        case first=>
         have H:=cN.out;clear cN;by_cases c30:(aA.length:Int)>0
         ·rw [if_pos c30] at H
          have bW:decide (0<(aA.length:Int))=true:=decide_eq_true c30;have cO:decide (0<aA.length)=true:=decide_eq_true (by omega)
          clear c30
          (first|rw [bW]|rw [cO]|rw [fZ]|(simp only [i64_w,i32_w];rw [bW])|skip)
          (try simp only [Bool.not_true,Bool.not_false])
          by_cases c31:bA.length<8796093022208
          ·rw [if_pos c31] at H
           have gA:=ak_ c31;clear c31;obtain⟨cZ,bX⟩:∃ y_:List ByteArray,y_=(bA++[(⟨#[117]⟩:ByteArray)]):=⟨_,rfl⟩;replace H:(tag_text.j3 kj18 cZ aE aH aI aG aA)=some r:=by first|(rw [bX];with_reducible exact H)|(have H2_:=(Option.bind_some _ _).symm.trans H;rw [bX];with_reducible exact H2_)|(have H2_:=(Option.bind_some _ _).symm.trans H;with_reducible exact H2_)|with_reducible exact H|(rw [bX];exact H)|exact H
           have gB:=ak_ bX;clear bX;have H':=ak_ H;clear H
           go_wp2_with (first|((with_reducible refine gate_builtin (b:=.append) (xs:=#[.tmp 38,.tmp 39]) rfl ?_);at_builtin;refine Kd.R_append Kd.string (w0:=w) w.heap.size rfl (.tmp 38) (.tmp 39) 22 9 (.string ⟨#[]⟩) 16 rfl Tryz.underlying22 info9 rfl (by decide) (by omega) fO bA (⟨#[117]⟩:ByteArray) [.string (⟨#[117]⟩:ByteArray)] (fun _=>True) (fun _=>False) rfl rfl ?aP (fun _ hk=>hk.elim) ?aF ?aO ?aB ?aS ?aL ?_;(case aP=>exact rfl);(case aB=>exact hs_);(case aF=>exact (fun _ _=>trivial));(case aO=>exact (ra_ cA));(case aS=>exact hsz_);(case aL=>have:=gA.out;omega);intro v210 w32 ho hb hg hat;rw [← gB.out] at ho;replace aC:=ak_ (blk_grown (g:=aV) (o:=.cells #[.string aE,.string aH,.string aI,.slice aM aG.length aN,.slice aU aA.length aQ] 25 (0,0)) (bk_ aC) hg (Kd.R_ne cA.out aC.out (by decide)));replace HB:=ak_ (hb);have gC:=ak_ (ho);clear cA;clear ho hb hg hat))
           go_meet
           case rel=>exact ⟨_,(cZ),H',⟨by have:=HJ1.out;have:=HJ12.out;have:=HJ18.out;first|omega|exact Nat.le_refl _⟩,⟨by(with_reducible repeat (first|apply Kd.R_alloc|apply Kd.R_drewN|apply Kd.R_drew));exact gC.out⟩,⟨bk_ aC⟩,⟨hs_⟩⟩
          ·rw [if_neg c31] at H
           exact absurd H (by simp)
         ·rw [if_neg c30] at H
          have bW:decide (0<(aA.length:Int))=false:=decide_eq_false c30;have cO:decide (0<aA.length)=false:=decide_eq_false (by omega)
          clear c30
          (first|rw [bW]|rw [cO]|rw [fZ]|(simp only [i64_w,i32_w];rw [bW])|skip)
          (try simp only [Bool.not_true,Bool.not_false])
          have H':=ak_ H;clear H
          go_wp2
          go_meet
          case rel=>exact ⟨_,(bA),H',⟨by have:=HJ1.out;have:=HJ12.out;have:=HJ18.out;first|omega|exact Nat.le_refl _⟩,⟨by(with_reducible repeat (first|apply Kd.R_alloc|apply Kd.R_drewN|apply Kd.R_drew));exact cA.out⟩,⟨bk_ aC⟩,⟨hs_⟩⟩
        case rest =>
         clear cN;clear fE fF fG fH fI fP fQ fR fS fT fJ fK fL fM fN fU fV fW fX fY;obtain⟨kq,cB,HA,HJ25,HO_3,aC,HB⟩:=hcut;cases kq with
         |zero=>exact absurd HA.out (by simp [tag_text.j3])
         | succ kj25=>
          have H:=HA.out;clear HA;simp only [tag_text.j3] at H;have H':=ak_ H;clear H;obtain⟨gD,gE,gF,gG,gH,gI,gJ,gK,gL,gM⟩:=c5_ aC
          go_wp2
          go_loopg [3,44] kj25 (fun kq v3 v44 w'=>∃ (bD:List ByteArray) (aD:Int),v44=.int .i64 aD∧Aside0 (tag_text.l0 kq bD aA (aA.length:Int) aD=some r)∧Aside0 (kq≤kj25)∧Aside0 (Kd.R Kd.string 9 w' w.heap.size (fun _=>True) v3 bD)∧Aside0 (w'.heap[aV]?=some (.cells #[.string aE,.string aH,.string aI,(.slice aM aG.length aN),(.slice aU aA.length aQ)] 25 (0,0)))∧Aside0 (Below w.heap.size w w'))
          case atStart=>exact ⟨(cB),(0),rr_,H',⟨Nat.le_refl _⟩,⟨by(with_reducible repeat (first|apply Kd.R_alloc|apply Kd.R_drewN|apply Kd.R_drew));exact HO_3.out⟩,⟨bk_ aC⟩,⟨hs_⟩⟩
          case round=>
           clear H';clear gD gE gF gG gH gI gJ gK gL gM;obtain⟨bD,aD,rfl,HA,HK5,HO_3,aC,HB⟩:=hrel;cases gk with
           |zero=>exact absurd HA.out (by simp [tag_text.l0])
           | succ k5=>
            have H:=HA.out;clear HA;simp only [tag_text.l0] at H;by_cases c34:aD<(aA.length:Int)
            ·rw [if_pos c34] at H
             have gN:decide (aD<(aA.length:Int))=true:=decide_eq_true c34;clear c34;by_cases c35:0≤aD
             ·rw [if_pos c35] at H
              have c35b0:decide (0≤aD)=true:=decide_eq_true c35;clear c35;by_cases c36:aD<(aA.length:Int)
              ·rw [if_pos c36] at H
               have c36b0:decide (aD<(aA.length:Int))=true:=decide_eq_true c36;clear c36;by_cases c37:bD.length<8796093022208
               ·rw [if_pos c37] at H
                have dA:=ak_ c37;clear c37;obtain⟨bB,bY⟩:∃ y_:List ByteArray,y_=(bD++[(rd_T39 aA aD).f0]):=⟨_,rfl⟩;replace H:(if ((rd_T39 aA aD).f1).toList=([]:List UInt8) then(tag_text.l0 k5 bB aA (aA.length:Int) (wrap64 (aD+1))) else(if bB.length<8796093022208 then(tag_text.l0 k5 (bB++[(rd_T39 aA aD).f1]) aA (aA.length:Int) (wrap64 (aD+1))) else(none)))=some r:=by first|(rw [bY];with_reducible exact H)|(have H2_:=(Option.bind_some _ _).symm.trans H;rw [bY];with_reducible exact H2_)|(have H2_:=(Option.bind_some _ _).symm.trans H;with_reducible exact H2_)|with_reducible exact H|(rw [bY];exact H)|exact H
                have dB:=ak_ bY;clear bY;by_cases c38:((rd_T39 aA aD).f1).toList=([]:List UInt8)
                ·rw [if_pos c38] at H
                 obtain⟨gO,gP,gQ⟩:=eq3_ c38;clear c38;have H':=ak_ H;clear H;have bH:0≤(aD:Int):=od_;have bI:aD<(aA.length:Int):=od_;obtain⟨cC,cP,bJ,bK⟩:=at_T39 cR.out aD bH bI;cases cP;replace bJ:=hx_ HB.out bJ;replace bK:=hx_ HB.out bK;replace bH:=eq_true bH;replace bI:=eq_true bI
                 go_wp2_with (first|((with_reducible refine gate_dst (N:=5) rfl ?_);refine bx_ 5 #[.string ⟨#[]⟩,.string ⟨#[]⟩] 39 ?_;intro aT hg w39 hbox hb;replace HO_3:=ak_ (Kd.R_below (ra_ HO_3) hb);have aJ:=ak_ (hbox);have gR:=ak_ (gw_ hg);have gS:=ak_ (gw_ hg);replace HB:=ak_ (below_step hs_ hb);have bL:=ak_ (nl_ aC hg);have cQ:=ak_ (ng_ aC hg);replace aC:=ak_ (bb_ aC hb);clear hb hbox hg;have hnb40:=cQ.out;have hnc40:=bL.out;have hT:w39.cell? ⟨aT,0,none⟩=some (.string ⟨#[]⟩):=(blk_cell aJ.out 0).trans rfl;have hU:w39.cell? ⟨aT,1,none⟩=some (.string ⟨#[]⟩):=(blk_cell aJ.out 1).trans rfl;have hV:=blk_frozen aJ.out 0;have hW:=blk_frozen aJ.out 1)|((with_reducible refine gate_builtin (b:=.append) (xs:=#[.tmp 48,.tmp 51]) rfl ?_);at_builtin;refine Kd.R_append Kd.string (w0:=w) w.heap.size rfl (.tmp 48) (.tmp 51) 22 9 (.string ⟨#[]⟩) 16 rfl Tryz.underlying22 info9 rfl (by decide) (by omega) u3 bD ((rd_T39 aA aD).f0) [.string ((rd_T39 aA aD).f0)] (fun _=>True) (fun _=>False) rfl (by first|(go_simp;done)|(go_simp;rfl)) ?aP (fun _ hk=>hk.elim) ?aF ?aO ?aB ?aS ?aL ?_;(case aP=>exact rfl);(case aB=>exact hs_);(case aF=>exact (fun _ _=>trivial));(case aO=>exact (by(with_reducible repeat (first|apply Kd.R_alloc|apply Kd.R_drewN|apply Kd.R_drew));exact Kd.R_mono (Kd.R_far (p:=⟨aT,1,none⟩) (Kd.R_far (p:=⟨aT,0,none⟩) (Kd.R_types HO_3.out aJ.out (by decide)) (fun _ hk=>hk.2) (.string ((rd_T39 aA aD).f0))) (fun _ hk=>hk.2) (.string ((rd_T39 aA aD).f1))) (fun _ hk=>trivial)));(case aS=>exact hsz_);(case aL=>have:=dA.out;omega);intro dC w42 ho hb hg hat;rw [← dB.out] at ho;replace aC:=ak_ (blk_grown (g:=aV) (o:=.cells #[.string aE,.string aH,.string aI,.slice aM aG.length aN,.slice (some cC) aA.length aQ] 25 (0,0)) (by refine blk_far ?_ bL.out _;refine blk_far ?_ bL.out _;(with_reducible repeat (first|refine blk_drewN ?_ _|refine blk_drew ?_|refine blk_alloc ?_ _));exact aC.out) hg (Kd.R_ne HO_3.out aC.out (by decide)));replace aJ:=ak_ (blk_grown (g:=aT) (o:=.cells #[.string ((rd_T39 aA aD).f0),.string ((rd_T39 aA aD).f1)] 39 (0,0)) (by refine blk_put (cs:=#[.string ((rd_T39 aA aD).f0),.string ⟨#[]⟩]) ?_ 1 _ rfl;refine blk_put (cs:=#[.string ⟨#[]⟩,.string ⟨#[]⟩]) ?_ 0 _ rfl;(with_reducible repeat (first|refine blk_drewN ?_ _|refine blk_drew ?_|refine blk_alloc ?_ _));exact aJ.out) hg (Kd.R_ne HO_3.out aJ.out (by decide)));replace HB:=ak_ (hb);have bN:=ak_ (ho);clear HO_3;clear ho hb hg hat;have hX:w42.cell? ⟨aT,0,none⟩=some (.string ((rd_T39 aA aD).f0)):=(blk_cell aJ.out 0).trans rfl;have hY:w42.cell? ⟨aT,1,none⟩=some (.string ((rd_T39 aA aD).f1)):=(blk_cell aJ.out 1).trans rfl;have hZ:=blk_frozen aJ.out 0;have iA:=blk_frozen aJ.out 1))
                 go_roundg k5
                 case measure=>have:=HJ1.out;have:=HJ12.out;have:=HJ18.out;have:=HJ25.out;have:=HK5.out;omega
                 case rel=>exact ⟨(bB),(wrap64 (aD+1)),rr_,H',⟨by have:=HJ1.out;have:=HJ12.out;have:=HJ18.out;have:=HJ25.out;have:=HK5.out;omega⟩,⟨by(with_reducible repeat (first|apply Kd.R_alloc|apply Kd.R_drewN|apply Kd.R_drew));exact bN.out⟩,⟨bk_ aC⟩,⟨hs_⟩⟩
                ·rw [if_neg c38] at H
                 obtain⟨gO,gP,gQ⟩:=ne3_ c38;by_cases c44:bB.length<8796093022208
                 ·rw [if_pos c44] at H
                  have gT:=ak_ c44;clear c44;obtain⟨dD,bZ⟩:∃ y_:List ByteArray,y_=(bB++[(rd_T39 aA aD).f1]):=⟨_,rfl⟩;replace H:(tag_text.l0 k5 dD aA (aA.length:Int) (wrap64 (aD+1)))=some r:=by first|(rw [bZ];with_reducible exact H)|(have H2_:=(Option.bind_some _ _).symm.trans H;rw [bZ];with_reducible exact H2_)|(have H2_:=(Option.bind_some _ _).symm.trans H;with_reducible exact H2_)|with_reducible exact H|(rw [bZ];exact H)|exact H
                  have gU:=ak_ bZ;clear bZ;have H':=ak_ H;clear H;have bH:0≤(aD:Int):=od_;have bI:aD<(aA.length:Int):=od_;obtain⟨cC,cP,bJ,bK⟩:=at_T39 cR.out aD bH bI;cases cP;replace bJ:=hx_ HB.out bJ;replace bK:=hx_ HB.out bK;replace bH:=eq_true bH;replace bI:=eq_true bI
                  go_wp2_with (first|((with_reducible refine gate_dst (N:=5) rfl ?_);refine bx_ 5 #[.string ⟨#[]⟩,.string ⟨#[]⟩] 39 ?_;intro aT hg w45 hbox hb;replace HO_3:=ak_ (Kd.R_below (ra_ HO_3) hb);have aJ:=ak_ (hbox);have gR:=ak_ (gw_ hg);have gS:=ak_ (gw_ hg);replace HB:=ak_ (below_step hs_ hb);have bL:=ak_ (nl_ aC hg);have cQ:=ak_ (ng_ aC hg);replace aC:=ak_ (bb_ aC hb);clear hb hbox hg;have hnb46:=cQ.out;have hnc46:=bL.out;have iB:w45.cell? ⟨aT,0,none⟩=some (.string ⟨#[]⟩):=(blk_cell aJ.out 0).trans rfl;have iC:w45.cell? ⟨aT,1,none⟩=some (.string ⟨#[]⟩):=(blk_cell aJ.out 1).trans rfl;have iD:=blk_frozen aJ.out 0;have iE:=blk_frozen aJ.out 1)|((with_reducible refine gate_builtin (b:=.append) (xs:=#[.tmp 48,.tmp 51]) rfl ?_);at_builtin;refine Kd.R_append Kd.string (w0:=w) w.heap.size rfl (.tmp 48) (.tmp 51) 22 9 (.string ⟨#[]⟩) 16 rfl Tryz.underlying22 info9 rfl (by decide) (by omega) u3 bD ((rd_T39 aA aD).f0) [.string ((rd_T39 aA aD).f0)] (fun _=>True) (fun _=>False) rfl (by first|(go_simp;done)|(go_simp;rfl)) ?aP (fun _ hk=>hk.elim) ?aF ?aO ?aB ?aS ?aL ?_;(case aP=>exact rfl);(case aB=>exact hs_);(case aF=>exact (fun _ _=>trivial));(case aO=>exact (by(with_reducible repeat (first|apply Kd.R_alloc|apply Kd.R_drewN|apply Kd.R_drew));exact Kd.R_mono (Kd.R_far (p:=⟨aT,1,none⟩) (Kd.R_far (p:=⟨aT,0,none⟩) (Kd.R_types HO_3.out aJ.out (by decide)) (fun _ hk=>hk.2) (.string ((rd_T39 aA aD).f0))) (fun _ hk=>hk.2) (.string ((rd_T39 aA aD).f1))) (fun _ hk=>trivial)));(case aS=>exact hsz_);(case aL=>have:=dA.out;omega);intro dC w48 ho hb hg hat;rw [← dB.out] at ho;replace aC:=ak_ (blk_grown (g:=aV) (o:=.cells #[.string aE,.string aH,.string aI,.slice aM aG.length aN,.slice (some cC) aA.length aQ] 25 (0,0)) (by refine blk_far ?_ bL.out _;refine blk_far ?_ bL.out _;(with_reducible repeat (first|refine blk_drewN ?_ _|refine blk_drew ?_|refine blk_alloc ?_ _));exact aC.out) hg (Kd.R_ne HO_3.out aC.out (by decide)));replace aJ:=ak_ (blk_grown (g:=aT) (o:=.cells #[.string ((rd_T39 aA aD).f0),.string ((rd_T39 aA aD).f1)] 39 (0,0)) (by refine blk_put (cs:=#[.string ((rd_T39 aA aD).f0),.string ⟨#[]⟩]) ?_ 1 _ rfl;refine blk_put (cs:=#[.string ⟨#[]⟩,.string ⟨#[]⟩]) ?_ 0 _ rfl;(with_reducible repeat (first|refine blk_drewN ?_ _|refine blk_drew ?_|refine blk_alloc ?_ _));exact aJ.out) hg (Kd.R_ne HO_3.out aJ.out (by decide)));replace HB:=ak_ (hb);have bN:=ak_ (ho);clear HO_3;clear ho hb hg hat;have iF:w48.cell? ⟨aT,0,none⟩=some (.string ((rd_T39 aA aD).f0)):=(blk_cell aJ.out 0).trans rfl;have iG:w48.cell? ⟨aT,1,none⟩=some (.string ((rd_T39 aA aD).f1)):=(blk_cell aJ.out 1).trans rfl;have iH:=blk_frozen aJ.out 0;have iI:=blk_frozen aJ.out 1)|((with_reducible refine gate_builtin (b:=.append) (xs:=#[.tmp 56,.tmp 59]) rfl ?_);at_builtin;refine Kd.R_append Kd.string (w0:=w) w.heap.size rfl (.tmp 56) (.tmp 59) 22 9 (.string ⟨#[]⟩) 16 rfl Tryz.underlying22 info9 rfl (by decide) (by omega) dC bB ((rd_T39 aA aD).f1) [.string ((rd_T39 aA aD).f1)] (fun _=>True) (fun _=>False) rfl rfl ?aP (fun _ hk=>hk.elim) ?aF ?aO ?aB ?aS ?aL ?_;(case aP=>exact rfl);(case aB=>exact hs_);(case aF=>exact (fun _ _=>trivial));(case aO=>exact (ra_ bN));(case aS=>exact hsz_);(case aL=>have:=gT.out;omega);intro v218 w50 ho hb hg hat;rw [← gU.out] at ho;replace aC:=ak_ (blk_grown (g:=aV) (o:=.cells #[.string aE,.string aH,.string aI,.slice aM aG.length aN,.slice (some cC) aA.length aQ] 25 (0,0)) (bk_ aC) hg (Kd.R_ne bN.out aC.out (by decide)));replace aJ:=ak_ (blk_grown (g:=aT) (o:=.cells #[.string ((rd_T39 aA aD).f0),.string ((rd_T39 aA aD).f1)] 39 (0,0)) (bk_ aJ) hg (Kd.R_ne bN.out aJ.out (by decide)));replace HB:=ak_ (hb);have gV:=ak_ (ho);clear bN;clear ho hb hg hat))
                  go_roundg k5
                  case measure=>have:=HJ1.out;have:=HJ12.out;have:=HJ18.out;have:=HJ25.out;have:=HK5.out;omega
                  case rel=>exact ⟨(dD),(wrap64 (aD+1)),rr_,H',⟨by have:=HJ1.out;have:=HJ12.out;have:=HJ18.out;have:=HJ25.out;have:=HK5.out;omega⟩,⟨by(with_reducible repeat (first|apply Kd.R_alloc|apply Kd.R_drewN|apply Kd.R_drew));exact gV.out⟩,⟨bk_ aC⟩,⟨hs_⟩⟩
                 ·rw [if_neg c44] at H
                  exact absurd H (by simp)
               ·rw [if_neg c37] at H
                exact absurd H (by simp)
              ·rw [if_neg c36] at H
               exact absurd H (by simp)
             ·rw [if_neg c35] at H
              exact absurd H (by simp)
            ·rw [if_neg c34] at H
             have gN:decide (aD<(aA.length:Int))=false:=decide_eq_false c34;clear c34;replace H:=Option.bind_eq_some_iff.mp H;obtain⟨cD,dE,H⟩:=H;try dsimp only at H
             have A51:=ak_ dE;clear dE;obtain rfl:=Option.some.inj H;obtain⟨gW,gX,gY⟩:=Kd.R_slice HO_3.out;subst gY
             go_wp2_with (first|((with_reducible refine gate_callee (f:=69) rfl ?_);refine gb_ (some 63) Tryz.func69 #[.slice gW bD.length gX,.string (⟨#[45]⟩:ByteArray)] ?_;(with_reducible refine(strings_Join.calls _ _ bD (⟨#[45]⟩:ByteArray) cD _ ?side1 ?side2 A51.out).mono ?_);(case side1=>repeat (first|exact(Kd.R_reads' HO_3.out).2.2|(with_reducible refine Kd.C_alloc ?_ _)|(with_reducible refine Kd.C_drewN ?_ _)|(with_reducible refine Kd.C_drew ?_)));(case side2=>exact (Kd.R_reads' HO_3.out).2.1);rintro e w53 ⟨rfl,hb⟩;refine⟨_,rfl,?_⟩;replace HO_3:=ak_ (Kd.R_below (ra_ HO_3) hb);replace aC:=ak_ (bb_ aC hb);replace HB:=ak_ (below_step hs_ hb);try clear hb))
             go_ret
             exact⟨re_,hs_⟩
       ·rw [if_neg c25] at H
        exact absurd H (by simp)
end Go.Proofs.YtphjhbppjakocaaGreatDoor.PTag
