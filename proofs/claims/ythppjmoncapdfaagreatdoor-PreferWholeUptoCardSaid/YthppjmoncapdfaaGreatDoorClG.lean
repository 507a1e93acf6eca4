/- The Closure laws, plain. -/
import Derived.Test.YthppjmoncapdfaaGreatDoorAmI
import Derived.Test.YthppjmoncapdfaaGreatDoorClF
import Derived.Test.YthppjmoncapdfaaGreatDoorClO
set_option linter.all false
open Go.IntKind (wrap)
open BitVec (ofInt)
namespace Go.Proofs.YthppjmoncapdfaaGreatDoor.cl
def sub (a b:Nat):Bool:=a&&&b==a
theorem WA {a b:Nat}:sub a b=true↔a&&&b=a:=by simp [sub]
theorem jY {a b:Nat}:sub a b=true↔∀i,a.testBit i=true→b.testBit i=true:=by
 rw [WA];constructor
 ·intro h i hi
  have:=aI (fun x=>x.testBit i) h;simp only [ja,hi,fG] at this;exact this
 ·intro h
  apply rA;intro i;rw [ja];cases hi:a.testBit i with
  |false=>rfl
  |true=>rw [h i hi];rfl
theorem xC (a:Nat):sub a a=true:=jY.2 fun _ h=>h
theorem xD {a b c:Nat} (h1:sub a b=true) (h2:sub b c=true):sub a c=true:=jY.2 fun i h=>jY.1 h2 i (jY.1 h1 i h)
theorem rY {a b:Nat} (h1:sub a b=true) (h2:sub b a=true):a=b:=by
 apply rA;intro i;rw [iH];exact ⟨jY.1 h1 i,jY.1 h2 i⟩
theorem Eo (a b:Nat):sub (a&&&b) a=true:=jY.2 fun i h=>by
 rw [ja,aF] at h;exact h.1
theorem La (a b:Nat):sub (a&&&b) b=true:=jY.2 fun i h=>by
 rw [ja,aF] at h;exact h.2
theorem Wz {a b c:Nat} (h1:sub a b=true) (h2:sub a c=true):sub a (b&&&c)=true:=jY.2 fun i h=>by
 rw [ja,jY.1 h1 i h,jY.1 h2 i h];rfl
def GL (cs:List Nat) (w:Nat):Int:=match cs.findIdx? (· ==w) with
 |some i=>(i:Int)
 |none=> -1
theorem Vq {cs:List Nat} {w:Nat} (h:w∉cs):GL cs w= -1:=by
 have:cs.findIdx? (· ==w)=none:=by
  rw [CX];intro x hx;simp;intro e;subst e;exact h hx
 simp [GL,this]
theorem ME {cs:List Nat} {w:Nat} (h:w∈cs):∃i,i<cs.length∧cs.getD i 0=w∧GL cs w=(i:Int):=by
 cases e:cs.findIdx? (· ==w) with
 |none=>
  rw [CX] at e;have:=e w h;simp at this
 |some i=>
  rw [xM] at e;obtain ⟨hi,h1,_⟩:=e;refine ⟨i,hi,?_,?_⟩
  ·rw [aQ,aH hi];simpa using h1
  ·have e':cs.findIdx? (· ==w)=some i:=by
    rw [xM];exact ⟨hi,h1,by assumption⟩
   simp [GL,e']
theorem kG {cs:List Nat} {i:Nat} (h:i<cs.length):cs.getD i 0∈cs:=by
 rw [aQ,aH h];exact bF h
theorem getD_inj {cs:List Nat} (nd:cs.Nodup) {i j:Nat} (hi:i<cs.length) (hj:j<cs.length) (h:cs.getD i 0=cs.getD j 0):i=j:=by
 rw [aQ,aQ,aH hi,aH hj] at h;exact (rB nd).1 h
structure YZ (cs:List Nat):Prop where
 nd:cs.Nodup
 nz:∀c∈cs,c≠0
 cl:∀a∈cs,∀b∈cs,a&&&b≠0→a&&&b∈cs
 top:∀c∈cs,sub c (cs.getD 0 0)=true
 pos:0<cs.length
 G0:∀i j,i<cs.length→j<cs.length→sub (cs.getD j 0) (cs.getD i 0)=true→i≤j
def Sl (cs:List Nat) (i:Nat):List Nat:=(List.range cs.length).filter fun k=>k !=i&&sub (cs.getD i 0) (cs.getD k 0)
def sups (cs:List Nat) (i:Nat):List Nat:=(Sl cs i).filter fun k=> !(Sl cs i).any fun m=>m !=k&&sub (cs.getD m 0) (cs.getD k 0)
end Go.Proofs.YthppjmoncapdfaaGreatDoor.cl
namespace Go.Proofs.YthppjmoncapdfaaGreatDoor.cl
open Go Go.AM
abbrev W:=List Int
def wd (b:W) (i:Nat):Int:=b.getD i 0
def nl (b:W):Nat→Nat
 |0=>0
 |n+1=>if wd b n=0 then nl b n else n+1
def norm (b:W):W:=b.take (nl b b.length)
def Dl (x y:Int):Int:=wrap .u64 ((ofInt (IntKind.bits .u64) x&&&ofInt (IntKind.bits .u64) y).toNat:Int)
def or64 (x y:Int):Int:=wrap .u64 ((ofInt (IntKind.bits .u64) x|||ofInt (IntKind.bits .u64) y).toNat:Int)
def wh (x y:Int):Int:=wrap .u64 ((ofInt (IntKind.bits .u64) x&&& ~~~ofInt (IntKind.bits .u64) y).toNat:Int)
theorem QZ (b:W):∀n,nl b n≤n
 |0=>aS _
 |n+1=>by unfold nl;split;exact Nat.le_succ_of_le (QZ b n);exact aS _
theorem zw {b:W} {i:Nat} (h:i<b.length):b[i]=wd b i:=by simp [wd,aQ,aH h]
theorem za {b:W} {i:Nat} (h:b.length≤i):wd b i=0:=by simp [wd,aQ,fc h]
theorem c106 (b:W) (i:Nat):f106 b i=some (wd b i):=by
 refine e106 ?_;by_cases h:i<b.length
 ·rw [cond_pos (by simp;omega),cn h,zw h]
 ·rw [cond_neg (by simp;omega),za (by omega)]
theorem c107 (b:W) (i:Nat):f107 b i=some (wd b i):=by
 refine e107 ?_;by_cases h:i<b.length
 ·rw [cond_pos (by simp;omega),cn h,zw h]
 ·rw [cond_neg (by simp;omega),za (by omega)]
theorem h68 (b:W) (hb:b.length≤1073741824):∀(n:Nat),n≤b.length→WL b n=some (b.take (nl b n)):=by
 intro n
 induction n with
 |zero=>
  intro hn;refine k68_2 ?_;rw [cond_neg (by simp),bp (by simp)];simp [nl]
 |succ n ih=>
  intro hn;refine k68_2 ?_;rw [cond_pos (by simp),xF (by omega),cn (by omega),zw];by_cases h:wd b n=0
  ·rw [cond_pos (by simpa using h),ih (by omega)]
   simp [nl,h]
  ·rw [cond_neg (by simpa using h),bp (by simp;omega)]
   have:nl b (n+1)=n+1:=by simp [nl,h]
   simp [this]
theorem c68 (b:W) (hb:b.length≤1073741824):f68 b=some (norm b):=e68 (h68 b hb _ (aS _))
theorem h60 (b:W) (hb:b.length≤1073741824):∀(n:Nat),n≤b.length→WI b n=some (b.take (nl b n)):=by
 intro n
 induction n with
 |zero=>
  intro hn;refine k60_2 ?_;rw [cond_neg (by simp),bp (by simp),bp (by simp)];simp [nl]
 |succ n ih=>
  intro hn;refine k60_2 ?_;rw [cond_pos (by simp),xF (by omega),cn (by omega),zw];by_cases h:wd b n=0
  ·rw [cond_pos (by simpa using h),ih (by omega)]
   simp [nl,h]
  ·rw [cond_neg (by simpa using h),bp (by simp;omega),bp (by simp;omega)]
   have:nl b (n+1)=n+1:=by simp [nl,h]
   simp [this]
theorem c60 (b:W) (hb:b.length≤1073741824):f60 b=some (norm b):=e60 (h60 b hb _ (aS _))
def tab (n:Nat) (f:Nat→Int):W:=(List.range n).map f
theorem RX (n:Nat) (f:Nat→Int):tab (n+1) f=tab n f++[f n]:=by simp [tab,jC]
theorem sL (n:Nat) (f:Nat→Int):(tab n f).length=n:=by simp [tab]
theorem acR (n:Nat) (f:Nat→Int) (i:Nat):wd (tab n f) i=if i<n then f i else 0:=by
 by_cases h:i<n<;>simp [wd,tab,aQ,cZ,oU,h]
theorem h61 (a b:W) (ha:a.length≤1073741824):∀(n i:Nat),a.length-i=n→i≤a.length→
  WJ a b i (tab i fun j=>Dl (wd a j) (wd b j))=some (norm (tab a.length fun j=>Dl (wd a j) (wd b j))):=by
 intro n
 induction n with
 |zero=>
  intro i hi hle;have:i=a.length:=by omega
  subst this;refine k61_3 ?_;rw [cond_neg (by simp),c60 _ (by rw [sL];exact ha)];rfl
 |succ n ih=>
  intro i hi hle;refine k61_3 ?_;rw [cond_pos (by simp;omega),cn (by omega),c106,aA,cz _ (by rw [sL];omega) (by simp) (by omega),bG (by omega),zw];have:=ih (i+1) (by omega) (by omega);rw [RX] at this;exact this
theorem c61 (a b:W) (ha:a.length≤1073741824):f61 a b=some (norm (tab a.length fun j=>Dl (wd a j) (wd b j))):=
 e61 (h61 a b ha _ 0 rfl (dh _))
theorem h108 (a b:W) (ha:a.length≤1073741824):∀(n i:Nat),a.length-i=n→i≤a.length→
  N6 a b i (tab i fun j=>wh (wd a j) (wd b j))=some (norm (tab a.length fun j=>wh (wd a j) (wd b j))):=by
 intro n
 induction n with
 |zero=>
  intro i hi hle;have:i=a.length:=by omega
  subst this;refine aaH ?_;rw [cond_neg (by simp),c60 _ (by rw [sL];exact ha)];rfl
 |succ n ih=>
  intro i hi hle;refine aaH ?_;rw [cond_pos (by simp;omega),cn (by omega),c106,aA,cz _ (by rw [sL];omega) (by simp) (by omega),bG (by omega),zw];have:=ih (i+1) (by omega) (by omega);rw [RX] at this;exact this
theorem c108 (a b:W) (ha:a.length≤1073741824):f108 a b=some (norm (tab a.length fun j=>wh (wd a j) (wd b j))):=
 e108 (h108 a b ha _ 0 rfl (dh _))
theorem minI (x y:Nat):(if (y:Int)<(x:Int) then (y:Int) else (x:Int))=((min x y:Nat):Int):=by split<;>omega
def GM (n i:Nat) (f:Nat→Int):W:=tab n fun j=>if j<i then f j else 0
theorem XF (n:Nat) (f:Nat→Int):GM n 0 f=List.replicate n 0:=by
 apply oS<;>simp [GM,tab]
theorem XE (n:Nat) (f:Nat→Int):GM n n f=tab n f:=by
 apply oS
 ·simp [GM,tab]
 ·intro j h1 h2;simp [GM,tab] at h1⊢;intro h;omega
theorem FX (n i:Nat) (f:Nat→Int):(GM n i f).length=n:=by simp [GM,tab]
theorem Z8 (n i:Nat) (f:Nat→Int) (h:i<n):(GM n i f).set i (f i)=GM n (i+1) f:=by
 apply oS
 ·simp [GM,tab]
 ·intro j h1 h2
  simp only [GM,tab,List.getElem_set,pe,CY];by_cases e:i=j
  ·subst e;simp
  ·simp only [e,ez]
   by_cases h3:j<i
   ·simp [h3,Nat.lt_succ_of_lt h3]
   ·have:¬j<i+1:=by omega
    simp [h3,this]
theorem h29 (a b:W) (m:Nat) (hm:m≤1073741824) (ha:m≤a.length) (hb:m≤b.length):∀(n i:Nat),m-i=n→i≤m→
  RR a b m i (GM m i fun j=>Dl (wd a j) (wd b j))=some (norm (tab m fun j=>Dl (wd a j) (wd b j))):=by
 intro n
 induction n with
 |zero=>
  intro i hi hle;have:i=m:=by omega
  subst this;refine k29_3 ?_;rw [cond_neg (by simp),XE,c68 _ (by rw [sL];exact hm)];rfl
 |succ n ih=>
  intro i hi hle;refine k29_3 ?_;rw [cond_pos (by simp;omega),cn (by omega),cn (by omega),SU (by rw [FX];omega),aR,MK (by rw [FX];omega),bG (by omega),zw,zw];have:=ih (i+1) (by omega) (by omega);rw [←Z8 m i _ (by omega)] at this;exact this
theorem c29 (a b:W) (ha:a.length≤1073741824) (hb:b.length≤1073741824):f29 a b=some (norm (tab (min a.length b.length) fun j=>Dl (wd a j) (wd b j))):=by
 refine e29 ?_;simp only [minI,aR,kg];rw [bp (by omega)];have:=h29 a b (min a.length b.length) (by omega) (by omega) (by omega) _ 0 rfl (dh _);rw [XF] at this;exact this
def Fs (a b:W):Bool:=(List.range a.length).all fun j=>wh (wd a j) (wd b j)==0
def tG (a b:W) (i:Nat):Bool:=(List.range' i (a.length-i)).all fun j=>wh (wd a j) (wd b j)==0
theorem N3 (a b:W) (i:Nat) (h:a.length≤i):tG a b i=true:=by
 have:a.length-i=0:=by omega
 simp [tG,this]
theorem Lb (a b:W) (i:Nat) (h:i<a.length):tG a b i=(wh (wd a i) (wd b i)==0&&tG a b (i+1)):=by
 have:a.length-i=(a.length-(i+1))+1:=by omega
 rw [tG,this,uk,gU];rfl
theorem h63 (a b:W) (ha:a.length≤1073741824):∀(n i:Nat),a.length-i=n→i≤a.length→WK b a a.length i=some (tG a b i):=by
 intro n
 induction n with
 |zero=>
  intro i hi hle;refine k63_2 ?_;rw [cond_neg (by simp;omega),N3 a b i (by omega)]
 |succ n ih=>
  intro i hi hle;refine k63_2 ?_;rw [cond_pos (by simp;omega),cn (by omega),c107,aA,Lb a b i (by omega),zw];by_cases h:wh (wd a i) (wd b i)=0
  ·rw [cond_neg (by simpa [wh] using h),bG (by omega),ih (i+1) (by omega) (by omega)]
   simp [h]
  ·rw [cond_pos (by simpa [wh] using h)]
   simp only [show (wh (wd a i) (wd b i)==0)=false by simpa using h,q9]
theorem c63 (a b:W) (ha:a.length≤1073741824):f63 a b=some (Fs a b):=by
 refine e63 ?_;rw [show Fs a b=tG a b 0 by simp [Fs,tG,xT]];exact h63 a b ha _ 0 rfl (dh _)
theorem V6 (b:W):∀n,nl b n=0↔∀j,j<n→wd b j=0
 |0=>by simp [nl]
 |n+1=>by
  unfold nl;split
  ·rename_i h
   rw [V6 b n];constructor
   ·intro hh j hj
    by_cases e:j=n
    ·subst e;exact h
    ·exact hh j (by omega)
   ·intro hh j hj;exact hh j (by omega)
  ·rename_i h
   constructor
   ·intro hh;omega
   ·intro hh;exact absurd (hh n (by omega)) h
theorem ab6 (b:W):(norm b).length=0↔∀j,j<b.length→wd b j=0:=by
 rw [norm,gD,zP (QZ b _),V6]
theorem c65 (a b:W) (ha:a.length≤1073741824):f65 a b=some (Fs a b):=by
 refine e65 ?_;rw [c108 a b ha,aA]
 congr 1
 rw [iH];have e:(((norm (tab a.length fun j=>wh (wd a j) (wd b j))).length:Int)==0)=((norm (tab a.length fun j=>wh (wd a j) (wd b j))).length==0):=by
  rw [iH];simp
 rw [e];simp only [fu,ab6,sL,Fs,cg,eT];constructor
 ·intro h j hj
  have:=h j hj
  rwa [acR,au hj] at this
 ·intro h j hj
  rw [acR,au hj];exact h j hj
theorem c102 (a b:W) (ha:a.length≤1073741824) (hb:b.length≤1073741824):f102 a b=some (Fs a b&&Fs b a):=by
 refine e102 ?_;rw [c65 a b ha,c65 b a hb];cases Fs a b<;>rfl
theorem h57 (a b:W) (ha:a.length≤1073741824) (hab:a.length=b.length):∀(xs:W) (i:Nat),a.drop i=xs→WH a b i=some (decide (a.drop i=b.drop i)):=by
 intro xs
 induction xs with
 |nil=>
  intro i h;refine k57_4 ?_;have:=jU h;rw [bI h,aj,h,rC (by omega)];simp
 |cons x xs ih=>
  intro i h;refine k57_4 ?_;have hlt:=eo h;rw [bH h,ai,aX h,cn (by omega),bJ h ha,h,um (l:=b) (i:=i) (by omega)];have e:=ih (i+1) (aN h);rw [aN h] at e;by_cases hx:x=b[i]
  ·rw [cond_neg (by simpa using hx),e];simp only [hx,dz,ig]
  ·rw [cond_pos (by simpa using hx)];simp only [dz,hx,false_and,xL]
theorem c57 (a b:W) (ha:a.length≤1073741824):f57 a b=some (decide (a=b)):=by
 refine e57 ?_;by_cases h:a.length=b.length
 ·rw [cond_neg (by simp;omega)]
  exact h57 a b ha h _ 0 rfl
 ·rw [cond_pos (by simp;omega)]
  have:a≠b:=fun e=>h (by rw [e])
  simp [this]
end Go.Proofs.YthppjmoncapdfaaGreatDoor.cl
namespace Go.Proofs.YthppjmoncapdfaaGreatDoor.cl
open Go Go.AM
def e1 (w:Nat):W:=if w=0 then [] else [(w:Int)]
theorem lC (w:Nat):(e1 w).length≤1:=by unfold e1;split<;>simp
theorem AP (w:Nat):wd (e1 w) 0=(w:Int):=by
 unfold e1;split
 ·rename_i h;simp [wd,h]
 ·simp [wd]
theorem UQ (w j:Nat):wd (e1 w) (j+1)=0:=za (by have:=lC w;omega)
theorem S6 {w v:Nat} (h:e1 w=e1 v):w=v:=by
 have:=AP w;rw [h,AP] at this;omega
theorem uQ (w:Nat):ofInt (IntKind.bits .u64) (w:Int)=BitVec.ofNat 64 w:=xU 64 w
theorem EK {w v:Nat} (hw:w<18446744073709551616) (hv:v<18446744073709551616):Dl (w:Int) (v:Int)=((w&&&v:Nat):Int):=by
 unfold Dl;rw [uQ,uQ];have h:w&&&v≤w:=ki;have e:(BitVec.ofNat 64 w&&&BitVec.ofNat 64 v).toNat=w&&&v:=by
  rw [xV,lI,lI,lP (by simpa using hw),lP (by simpa using hv)]
 show wrap .u64 (((BitVec.ofNat 64 w&&&BitVec.ofNat 64 v).toNat:Nat):Int)=_;rw [e,sM (by omega) (by omega)]
theorem acj {w v:Nat} (hw:w<18446744073709551616) (hv:v<18446744073709551616):w|||v<18446744073709551616:=by
 have:=Nat.or_lt_two_pow (n:=64) (x:=w) (y:=v) (by simpa using hw) (by simpa using hv);simpa using this
theorem aci {w v:Nat} (hw:w<18446744073709551616) (hv:v<18446744073709551616):or64 (w:Int) (v:Int)=((w|||v:Nat):Int):=by
 unfold or64;rw [uQ,uQ];have h:=acj hw hv;have e:(BitVec.ofNat 64 w|||BitVec.ofNat 64 v).toNat=w|||v:=by
  rw [BitVec.toNat_or,lI,lI,lP (by simpa using hw),lP (by simpa using hv)]
 show wrap .u64 (((BitVec.ofNat 64 w|||BitVec.ofNat 64 v).toNat:Nat):Int)=_;rw [e,sM (by omega) (by omega)]
theorem uS {w v:Nat} (hw:w<18446744073709551616) (hv:v<18446744073709551616):wh (w:Int) (v:Int)=0↔sub w v=true:=by
 unfold wh;rw [uQ,uQ];have hlt:(BitVec.ofNat 64 w&&& ~~~BitVec.ofNat 64 v).toNat<18446744073709551616:=(BitVec.ofNat 64 w&&& ~~~BitVec.ofNat 64 v).isLt;show wrap .u64 (((BitVec.ofNat 64 w&&& ~~~BitVec.ofNat 64 v).toNat:Nat):Int)=0↔_;rw [sM (by omega) (by omega)];have e:((((BitVec.ofNat 64 w&&& ~~~BitVec.ofNat 64 v).toNat:Nat):Int)=0)↔(BitVec.ofNat 64 w&&& ~~~BitVec.ofNat 64 v).toNat=0:=by omega
 rw [e,jY];constructor
 ·intro h i hi
  have hi64:i<64:=by
   apply dA;intro hc;have:w.testBit i=false:=xW (eX (by simpa using hw:w<2^ 64) (xX (by omega) (by omega)));rw [this] at hi;cases hi
  have:=aI (fun x=>x.testBit i) h;simp only [CZ,C0,C1,C6,hi64,uo,fG,hi,xY,Bool.not_eq_false'] at this;exact this
 ·intro h
  apply rA;intro i;simp only [CZ,C0,C1,C6,xY];cases hi:w.testBit i with
  |false=>simp
  |true=>simp [h i hi]
theorem Yb (f:Nat→Int):norm (tab 0 f)=[]:=by simp [norm,tab]
theorem Yc (f:Nat→Int):norm (tab 1 f)=if f 0=0 then [] else [f 0]:=by
 have:tab 1 f=[f 0]:=by simp [tab,jC]
 rw [this];unfold norm;simp only [ij,nl];have hw:wd [f 0] 0=f 0:=rfl;rw [hw];split<;>simp
theorem Re {f:Nat→Int} {n w:Nat} (hn:n≤1) (h1:n=1→f 0=(w:Int)) (h0:n=0→w=0):norm (tab n f)=e1 w:=by
 cases n with
 |zero=>rw [Yb,h0 rfl];simp [e1]
 |succ n=>
  have:n=0:=by omega
  subst this;rw [Yc,h1 rfl];unfold e1;by_cases h:w=0<;>simp [h]
theorem AZ {w:Nat} (h:(e1 w).length=0):w=0:=by
 unfold e1 at h;split at h
 ·assumption
 ·simp at h
section
variable {w v:Nat} (hw:w<18446744073709551616) (hv:v<18446744073709551616)
include hw hv
theorem o61:f61 (e1 w) (e1 v)=some (e1 (w&&&v)):=by
 have hl:=lC w;rw [c61 _ _ (by omega)]
 congr 1
 refine Re hl (fun _=> ?_) (fun h=> ?_)
 ·rw [AP,AP,EK hw hv]
 ·rw [AZ h];simp
theorem o29:f29 (e1 w) (e1 v)=some (e1 (w&&&v)):=by
 have hl:=lC w;have hl':=lC v;rw [c29 _ _ (by omega) (by omega)]
 congr 1
 refine Re (by omega) (fun _=> ?_) (fun h=> ?_)
 ·rw [AP,AP,EK hw hv]
 ·by_cases h0:(e1 w).length=0
  ·rw [AZ h0];simp
  ·rw [AZ (show (e1 v).length=0 by omega)];simp
theorem WB:Fs (e1 w) (e1 v)=sub w v:=by
 rw [iH];simp only [Fs,cg,eT,fu];have hl:=lC w;constructor
 ·intro h
  by_cases h0:(e1 w).length=0
  ·rw [AZ h0];exact jY.2 fun i hi=>by simp at hi
  ·have:=h 0 (by omega)
   rwa [AP,AP,uS hw hv] at this
 ·intro h j hj
  have:j=0:=by omega
  subst this;rw [AP,AP,uS hw hv];exact h
theorem o63:f63 (e1 w) (e1 v)=some (sub w v):=by
 rw [c63 _ _ (by have:=lC w;omega),WB hw hv]
theorem o65:f65 (e1 w) (e1 v)=some (sub w v):=by
 rw [c65 _ _ (by have:=lC w;omega),WB hw hv]
theorem o57:f57 (e1 w) (e1 v)=some (decide (w=v)):=by
 rw [c57 _ _ (by have:=lC w;omega)]
 congr 1
 rw [ny];exact ⟨S6,fun h=>by rw [h]⟩
end
theorem QY {a b:W} (h:∀j,wd a j=wd b j):∀n,nl a n=nl b n
 |0=>rfl
 |n+1=>by unfold nl;rw [h n,QY h n]
theorem ab4 (a:W):∀n,a.length≤n→nl a n=nl a a.length:=by
 intro n hn
 induction n with
 |zero=>rw [show a.length=0 by omega]
 |succ n ih=>
  by_cases h:a.length=n+1
  ·rw [h]
  ·rw [←ih (by omega)]
   show (if wd a n=0 then nl a n else n+1)=_;rw [au (za (by omega))]
theorem Rc {a b:W} (h:∀j,wd a j=wd b j):norm a=norm b:=by
 have hn:nl a a.length=nl b b.length:=by
  rw [←ab4 a (max a.length b.length) (by omega),←ab4 b (max a.length b.length) (by omega),QY h]
 unfold norm;apply oS
 ·simp only [gD]
  have:=QZ a a.length;have:=QZ b b.length;omega
 ·intro j h1 h2
  simp only [List.getElem_take];simp only [gD] at h1 h2;rw [zw,zw,h j]
theorem nl_pos {a:W}:∀n j,nl a n≤j→j<n→wd a j=0:=by
 intro n
 induction n with
 |zero=>intro j _ h;omega
 |succ n ih=>
  intro j h1 h2;unfold nl at h1;split at h1
  ·rename_i h
   by_cases e:j=n
   ·subst e;exact h
   ·exact ih j h1 (by omega)
  ·omega
theorem WX (a:W) (j:Nat):wd (norm a) j=wd a j:=by
 unfold norm;by_cases h:j<nl a a.length
 ·have hl:=QZ a a.length
  rw [wd,aQ,List.getElem?_take_of_lt h,wd,aQ]
 ·rw [za (by simp;omega)]
  by_cases h2:j<a.length
  ·exact (nl_pos _ _ (by omega) h2).symm
  ·exact (za (by omega)).symm
theorem Hu (w:Nat):norm (e1 w)=e1 w:=by
 unfold e1;split
 ·rfl
 ·rename_i h
  have:wd [(w:Int)] 0=(w:Int):=rfl;have h2:(w:Int)≠0:=by omega
  simp [norm,nl,this,h2,h]
def Wds (b:W):Prop:=∀x∈b,0≤x∧x<18446744073709551616
theorem O7 {b:W} (h:Wds b) (j:Nat):∃w:Nat,wd b j=(w:Int)∧w<18446744073709551616:=by
 by_cases hj:j<b.length
 ·have:=h _ (bF hj)
  rw [zw] at this;exact ⟨(wd b j).toNat,by omega,by omega⟩
 ·exact ⟨0,by rw [za (by omega)];rfl,by omega⟩
theorem Yy {a b:W} (ha:Wds a) (hb:Wds b):(Fs a b&&Fs b a)=decide (norm a=norm b):=by
 rw [iH];simp only [aF,iZ,Fs,cg,eT,fu];constructor
 ·rintro ⟨h1,h2⟩
  apply Rc;intro j;obtain ⟨x,hx,hxl⟩:=O7 ha j;obtain ⟨y,hy,hyl⟩:=O7 hb j;have s1:sub x y=true:=by
   by_cases hj:j<a.length
   ·have:=h1 j hj;rwa [hx,hy,uS hxl hyl] at this
   ·rw [za (by omega)] at hx
    have:x=0:=by omega
    subst this;exact jY.2 fun i hi=>by simp at hi
  have s2:sub y x=true:=by
   by_cases hj:j<b.length
   ·have:=h2 j hj;rwa [hx,hy,uS hyl hxl] at this
   ·rw [za (by omega)] at hy
    have:y=0:=by omega
    subst this;exact jY.2 fun i hi=>by simp at hi
  rw [hx,hy,rY s1 s2]
 ·intro h
  have hw:∀j,wd a j=wd b j:=fun j=>by rw [←WX a,h,WX]
  constructor
  ·intro j _
   obtain ⟨x,hx,hxl⟩:=O7 ha j;rw [←hw,hx,uS hxl hxl];exact xC _
  ·intro j _
   obtain ⟨x,hx,hxl⟩:=O7 ha j;rw [←hw,hx,uS hxl hxl];exact xC _
theorem acS {w:Nat} (hw:w<18446744073709551616):Wds (e1 w):=by
 intro x hx;unfold e1 at hx;split at hx
 ·cases hx
 ·simp only [bP] at hx;subst hx;omega
structure Cd (l:List dR) (cs:List Nat):Prop where
 eq:l.map (·.Code)=cs.map e1
 lt:∀c∈cs,c<18446744073709551616
 len:cs.length≤1048576
theorem Cd.length {l:List dR} {cs:List Nat} (h:Cd l cs):l.length=cs.length:=by
 have:=aI List.length h.eq;simpa using this
theorem Cd.code {l:List dR} {cs:List Nat} (h:Cd l cs) {i:Nat} (hi:i<l.length):l[i].Code=e1 (cs.getD i 0):=by
 have hi':i<cs.length:=by rw [←h.length];exact hi
 have:=aI (fun m=>m[i]?) h.eq;simp only [cZ,aH hi,aH hi',cS,aG] at this;rw [this,aQ,aH hi'];rfl
theorem Cd.get {l:List dR} {cs:List Nat} (h:Cd l cs) {i:Nat} (hi:i<cs.length):cs.getD i 0<18446744073709551616:=h.lt _ (kG hi)
theorem Cd.mem {l:List dR} {cs:List Nat} (h:Cd l cs) {x:dR} (hx:x∈l):∃c,c∈cs∧x.Code=e1 c:=by
 have:x.Code∈l.map (·.Code):=jc hx;rw [h.eq,aB] at this;obtain ⟨c,hc,e⟩:=this;exact ⟨c,hc,e.symm⟩
theorem h19 {l:List dR} (hl:l.length≤1073741824) (hs:∀x∈l,x.Code.length≤1073741824) (n:W):∀(xs:List dR) (i:Nat),l.drop i=xs→
  WD l n i=some (gP (fun x=>decide (x.Code=n)) xs i):=by
 intro xs
 induction xs with
 |nil=>
  intro i h;refine k19_3 ?_;rw [bI h];rfl
 |cons x xs ih=>
  intro i h;refine k19_3 ?_;have hx:x∈l:=by rw [←kj i l,h];simp
  rw [bH h,ai,aX h,c57 _ _ (hs x hx),aA,bJ h hl,ih (i+1) (aN h),gP];cases decide (x.Code=n)<;>rfl
theorem c19 {l:List dR} {cs:List Nat} (H:Cd l cs) {code:W} (GR:code.length≤1073741824):f19 l code=some (gP (fun x=>decide (x.Code=norm code)) l 0):=by
 refine e19 ?_;rw [c60 _ GR,aA];refine h19 (by have:=H.len;rw [H.length];omega) (fun x hx=> ?_) _ l 0 rfl;obtain ⟨c,_,e⟩:=H.mem hx;rw [e];have:=lC c;omega
theorem ix_fnd:∀(l:List dR) (cs:List Nat) (w i:Nat),l.map (·.Code)=cs.map e1→
  gP (fun x=>decide (x.Code=e1 w)) l i=match cs.findIdx? (· ==w) with
   |some j=>((i+j:Nat):Int)
   |none=> -1:=by
 intro l
 induction l with
 |nil=>
  intro cs w i h;cases cs with
  |nil=>rfl
  |cons c cs=>simp at h
 |cons x l ih=>
  intro cs w i h;cases cs with
  |nil=>simp at h
  |cons c cs=>
   simp only [aP,dz] at h;rw [gP,ih cs w (i+1) h.2,ug];by_cases e:c=w
   ·subst e;simp [h.1]
   ·have h1:¬(x.Code=e1 w):=by rw [h.1];exact fun e'=>e (S6 e')
    have h2:(c==w)=false:=by simpa using e
    simp only [h1,xL,cW,ez,h2];cases cs.findIdx? (· ==w) with
    |none=>rfl
    |some j=>
     show (((i+1)+j:Nat):Int)=((i+(j+1):Nat):Int)
     rw [kB,s6 1 j]
theorem ix_fnd0 {l:List dR} {cs:List Nat} (H:Cd l cs) (w:Nat):gP (fun x=>decide (x.Code=e1 w)) l 0=GL cs w:=by
 rw [ix_fnd l cs w 0 H.eq,GL];cases cs.findIdx? (· ==w)<;>simp
theorem LL {l:List dR} {cs:List Nat} (H:Cd l cs) (w:Nat):f19 l (e1 w)=some (GL cs w):=by
 rw [c19 H (by have:=lC w;omega),Hu,ix_fnd0 H]
section
variable {l:List dR} {cs:List Nat} (H:Cd l cs) {i j:Nat} (hi:i<cs.length) (hj:j<cs.length)
include H hi hj
theorem o25:f25 l i j=some (sub (cs.getD j 0) (cs.getD i 0)):=by
 refine e25 ?_;have hl:=H.length;rw [cn (by omega),cn (by omega),H.code,H.code,o65 (H.get hj) (H.get hi)];rfl
end
abbrev cast (l:List Nat):List Int:=l.map fun n:Nat=>(n:Int)
theorem EV {l:List Nat} {i:Nat} {x:Nat} {xs:List Nat} (h:l.drop i=x::xs):(cast l).drop i=(x:Int)::cast xs:=by
 rw [←lH,h];rfl
theorem Zw {l:List Nat} {i:Nat} (h:l.drop i=[]):(cast l).drop i=[]:=by rw [←lH,h];rfl
def GX (cs:List Nat) (i k m:Nat):Bool:=m==i||m==k|| !sub (cs.getD m 0) (cs.getD k 0)|| !sub (cs.getD i 0) (cs.getD m 0)
section
variable {l:List dR} {cs:List Nat} (H:Cd l cs)
include H
theorem h28b {i k:Nat} (hi:i<cs.length) (hk:k<cs.length) {o:List Int} (ho:o.length≤1073741824) {r:R28.T}:∀(n m:Nat) (dir:Bool),cs.length-m=n→m≤cs.length→
  GB l i (k+1:Nat) (if (dir&&(List.range' m (cs.length-m)).all (GX cs i k))=true then o++[(k:Int)] else o)=some r→GC l i k dir m o=some r:=by
 have hlen:=H.len;have hl:=H.length;intro n
 induction n with
 |zero=>
  intro m dir hm hle h;refine k28_8 ?_;have:m=cs.length:=by omega
  subst this;rw [cond_neg (by simp;omega),bG (by omega)];simp only [oZ,List.range'_zero,List.all_nil,Bool.and_true] at h;cases dir with
  |true=>rw [ai,cz _ ho (by simp) (by omega)];simpa using h
  |false=>simpa using h
 |succ n ih=>
  intro m dir hm hle h;refine k28_8 ?_;have hr:List.range' m (cs.length-m)=m::List.range' (m+1) (cs.length-(m+1)):=by
   rw [show cs.length-m=(cs.length-(m+1))+1 by omega,uk]
  rw [hr,gU] at h;have hm':m<cs.length:=by omega
  rw [cond_pos (by simp;omega),bG (by omega)];cases dir with
  |false=>rw [aj];exact ih (m+1) false (by omega) (by omega) (by simpa using h)
  |true=>
   rw [ai];by_cases e1:m=i
   ·rw [cond_pos (by simp;omega)]
    refine ih (m+1) true (by omega) (by omega) ?_;have:GX cs i k m=true:=by simp [GX,e1]
    rw [this,fG] at h;exact h
   ·rw [cond_neg (by simp;omega)]
    by_cases e2:m=k
    ·rw [cond_pos (by simp;omega)]
     refine ih (m+1) true (by omega) (by omega) ?_;have:GX cs i k m=true:=by simp [GX,e2]
     rw [this,fG] at h;exact h
    ·rw [cond_neg (by simp;omega),o25 H hk hm',aA]
     cases h1:sub (cs.getD m 0) (cs.getD k 0) with
     |false=>
      rw [pg,ai];refine ih (m+1) true (by omega) (by omega) ?_;have:GX cs i k m=true:=by simp only [GX,h1];simp
      rw [this,fG] at h;exact h
     |true=>
      rw [ic,aj,o25 H hm' hi,aA];refine ih (m+1) _ (by omega) (by omega) ?_;have:GX cs i k m= !sub (cs.getD i 0) (cs.getD m 0):=by
       simp only [GX,h1];simp [e1,e2]
      rw [this,fG] at h;exact h
def KP (cs:List Nat) (i:Nat) (k:Nat):Bool:=k !=i&&sub (cs.getD i 0) (cs.getD k 0)&&(List.range cs.length).all (GX cs i k)
theorem h28a {i:Nat} (hi:i<cs.length):∀(n k:Nat) (acc:List Nat),cs.length-k=n→k≤cs.length→acc.length≤k→
  GB l i k (cast acc)=some (cast (acc++(List.range' k (cs.length-k)).filter (KP cs i))):=by
 have hlen:=H.len;have hl:=H.length;intro n
 induction n with
 |zero=>
  intro k acc hk hle hacc;refine k28_3 ?_;rw [cond_neg (by simp;omega),hk];simp
 |succ n ih=>
  intro k acc hk hle hacc;refine k28_3 ?_;have hr:List.range' k (cs.length-k)=k::List.range' (k+1) (cs.length-(k+1)):=by
   rw [show cs.length-k=(cs.length-(k+1))+1 by omega,uk]
  rw [cond_pos (by simp;omega),bG (by omega),hr,fH];by_cases e:k=i
  ·rw [cond_pos (by simp;omega),ih (k+1) acc (by omega) (by omega) (by omega)]
   have:KP cs i k=false:=by simp [KP,e]
   rw [this];rfl
  ·rw [cond_neg (by simp;omega),o25 H (by omega) hi,aA]
   cases h1:sub (cs.getD i 0) (cs.getD k 0) with
   |false=>
    rw [pg,ai,ih (k+1) acc (by omega) (by omega) (by omega)];have:KP cs i k=false:=by simp only [KP,h1];simp
    rw [this];rfl
   |true=>
    rw [ic,aj];refine h28b H hi (by omega) (by simp;omega) _ 0 true rfl (by omega) ?_;have hd:KP cs i k=(List.range cs.length).all (GX cs i k):=by simp only [KP,h1];simp [e]
    rw [uq,←xT,fG,←hd];cases hdk:KP cs i k with
    |true=>
     have:=ih (k+1) (acc++[k]) (by omega) (by omega) (by simp;omega);simpa using this
    |false=>
     have:=ih (k+1) acc (by omega) (by omega) (by omega);simpa using this
omit H in
theorem Xo (i:Nat):(List.range cs.length).filter (KP cs i)=sups cs i:=by
 unfold sups Sl;rw [C7];apply rf;intro k hk;rw [iH];simp only [KP,aF,cg,eT,gV,qZ,cL,iI,ne_eq,GX,eY,fu];constructor
 ·rintro ⟨⟨h1,h2⟩,h3⟩
  refine ⟨?_,h1,h2⟩
  rintro m ⟨hm,Vy,hm2⟩ ⟨hm3,hm4⟩
  rcases h3 m hm with ((h|h)|h)|h
  ·exact Vy h
  ·exact hm3 h
  ·rw [hm4] at h;cases h
  ·rw [hm2] at h;cases h
 ·rintro ⟨h3,h1,h2⟩
  refine ⟨⟨h1,h2⟩,?_⟩;intro m hm;by_cases e1:m=i
  ·exact .inl (.inl (.inl e1))
  by_cases e2:m=k
  ·exact .inl (.inl (.inr e2))
  cases h4:sub (cs.getD m 0) (cs.getD k 0) with
  |false=>exact .inl (.inr rfl)
  |true=>
   cases h5:sub (cs.getD i 0) (cs.getD m 0) with
   |false=>exact .inr rfl
   |true=>exact absurd ⟨e2,h4⟩ (h3 m ⟨hm,e1,h5⟩)
theorem o28 {i:Nat} (hi:i<cs.length):f28 l i=some (cast (sups cs i)):=by
 refine e28 ?_;have:=h28a H hi _ 0 [] rfl (by omega) (by simp);rw [uq,←xT,Xo,dU] at this;simpa using this
end
end Go.Proofs.YthppjmoncapdfaaGreatDoor.cl
namespace Go.AM
abbrev cG:Type:=List UInt8
def SS (l:List cG):Prop:=l.Pairwise fun a b=>Op.bytesLess a b=true
theorem Zi {a b:cG} (h:Op.bytesLess a b=true):a≠b:=fun e=>by
 subst e;rw [Lm] at h;cases h
theorem SS.nodup {l:List cG} (h:SS l):l.Nodup:=h.imp fun h=>Zi h
def qH (s:cG):List cG→List cG
 |[]=>[s]
 |x::l=>if Op.bytesLess x s=true then x::qH s l else if x=s then x::l else s::x::l
theorem QS {s y:cG}:∀{l:List cG},y∈qH s l↔y=s∨y∈l:=by
 intro l
 induction l with
 |nil=>simp [qH]
 |cons x l ih=>
  unfold qH;split
  ·simp only [aD,ih]
   exact ⟨fun h=>h.elim (fun h=> .inr (.inl h)) fun h=>h.elim .inl fun h=> .inr (.inr h),fun h=>h.elim (fun h=> .inr (.inl h)) fun h=>h.elim .inl fun h=> .inr (.inr h)⟩
  ·split
   ·rename_i h;subst h;simp
   ·simp
theorem nj (s:cG):∀l:List cG,(qH s l).length≤l.length+1:=by
 intro l
 induction l with
 |nil=>simp [qH]
 |cons x l ih=>unfold qH;split<;>(try split)<;>simp<;>omega
theorem Ru {s:cG}:∀{l:List cG},SS l→SS (qH s l):=by
 intro l
 induction l with
 |nil=>intro _;simp [qH,SS]
 |cons x l ih=>
  intro h;have h':=dX.1 h;unfold qH;split
  ·rename_i hx
   refine dX.2 ⟨?_,ih h'.2⟩;intro y hy;rcases QS.1 hy with rfl|hy
   ·exact hx
   ·exact h'.1 y hy
  ·split
   ·exact h
   ·rename_i h1 h2
    have MO:Op.bytesLess x s=false:=by simpa using h1
    have h3:=zW x s MO h2;refine dX.2 ⟨?_,h⟩;intro y hy;rcases aD.1 hy with rfl|hy
    ·exact h3
    ·exact Ds _ _ _ h3 (h'.1 y hy)
def mD (l:List cG):List cG:=l.foldl (fun o s=>qH s o) []
theorem Cf:∀(l o:List cG),SS o→SS (l.foldl (fun o s=>qH s o) o)∧(∀y,y∈l.foldl (fun o s=>qH s o) o↔y∈o∨y∈l)∧(l.foldl (fun o s=>qH s o) o).length≤o.length+l.length:=by
 intro l
 induction l with
 |nil=>intro o h;exact ⟨h,fun y=>by simp,by simp⟩
 |cons x l ih=>
  intro o h;obtain ⟨h1,h2,h3⟩:=ih (qH x o) (Ru h);refine ⟨h1,fun y=> ?_,?_⟩
  ·show y∈List.foldl _ (qH x o) l↔_
   rw [h2,QS,aD];exact ⟨fun h=>h.elim (fun h=>h.elim (fun h=> .inr (.inl h)) .inl) fun h=> .inr (.inr h),fun h=>h.elim (fun h=> .inl (.inr h)) fun h=>h.elim (fun h=> .inl (.inl h)) .inr⟩
  ·have:=nj x o
   simp only [fR,bg] at h3⊢;omega
theorem lZ (l:List cG):SS (mD l):=(Cf l [] (by simp [SS])).1
theorem gB {l:List cG} {y:cG}:y∈mD l↔y∈l:=by
 have:=(Cf l [] (by simp [SS])).2.1 y;simpa [mD] using this
theorem pZ (l:List cG):(mD l).length≤l.length:=by
 have:=(Cf l [] (by simp [SS])).2.2;simpa [mD] using this
theorem SS.ext:∀{l m:List cG},SS l→SS m→(∀y,y∈l↔y∈m)→l=m:=by
 intro l
 induction l with
 |nil=>
  intro m _ _ h;cases m with
  |nil=>rfl
  |cons y m=>exact absurd ((h y).2 (by simp)) (by simp)
 |cons x l ih=>
  intro m hl hm h;cases m with
  |nil=>exact absurd ((h x).1 (by simp)) (by simp)
  |cons y m=>
   have hl':=dX.1 hl;have hm':=dX.1 hm;have hxy:x=y:=by
    rcases aD.1 ((h x).1 (by simp)) with e|hx
    ·exact e
    ·rcases aD.1 ((h y).2 (by simp)) with e|hy
     ·exact e.symm
     ·have h1:=hm'.1 x hx
      have h2:=hl'.1 y hy;rw [td h1] at h2;cases h2
   subst hxy
   congr 1
   refine ih hl'.2 hm'.2 fun z=> ?_
   have hz:=h z;simp only [aD] at hz;constructor
   ·intro hzl
    rcases hz.1 (.inr hzl) with e|hzm
    ·subst e;exact absurd rfl (Zi (hl'.1 z hzl))
    ·exact hzm
   ·intro hzm
    rcases hz.2 (.inr hzm) with e|hzl
    ·subst e;exact absurd rfl (Zi (hm'.1 z hzm))
    ·exact hzl
theorem js {α:Type}:∀{l m:List α},l.Nodup→(∀x∈l,x∈m)→l.length≤m.length:=by
 intro l
 induction l with
 |nil=>intro m _ _;simp
 |cons x l ih=>
  intro m hd hs;have hd':=fE.1 hd;obtain ⟨a,b,rfl⟩:=CT (hs x (by simp))
  have:=ih (m:=a++b) hd'.2 (fun y hy=>by
   have h1:=hs y (by simp [hy]);simp only [bC,aD] at h1⊢;rcases h1 with h|h|h
   ·exact .inl h
   ·subst h;exact absurd hy hd'.1
   ·exact .inr h)
  simp only [bg,cQ] at this⊢;omega
theorem Uh {α:Type} {l m:List α} (hl:l.Nodup) (hs:∀x∈l,x∈m) (hlen:m.length≤l.length):∀x∈m,x∈l:=by
 intro x hx;apply dA;intro hn;have hd:(x::l).Nodup:=fE.2 ⟨hn,hl⟩
 have:=js (m:=m) hd (fun y hy=>by
  rcases aD.1 hy with rfl|hy
  ·exact hx
  ·exact hs y hy)
 simp at this;omega
def iX (o:List cG) (l:List cG):List cG:=l.foldl (fun o y=>if y∈o then o else o++[y]) o
theorem Pk:∀(l o:List cG),(∀y,y∈iX o l↔y∈o∨y∈l)∧(o.Nodup→(iX o l).Nodup)∧∃e,iX o l=o++e:=by
 intro l
 induction l with
 |nil=>intro o;exact ⟨fun y=>by simp [iX],fun h=>h,[],by simp [iX]⟩
 |cons x l ih=>
  intro o;by_cases hx:x∈o
  ·obtain ⟨h1,h2,h3⟩:=ih o
   have e:iX o (x::l)=iX o l:=by simp [iX,hx]
   rw [e];refine ⟨fun y=> ?_,h2,h3⟩;rw [h1,aD];exact ⟨fun h=>h.elim .inl fun h=> .inr (.inr h),fun h=>h.elim .inl fun h=>h.elim (fun h=> .inl (h▸hx)) .inr⟩
  ·obtain ⟨h1,h2,e',h3⟩:=ih (o++[x])
   have e:iX o (x::l)=iX (o++[x]) l:=by simp [iX,hx]
   rw [e];refine ⟨fun y=> ?_,fun h=>h2 ?_,x::e',by rw [h3];simp⟩
   ·rw [h1,aD,bC,bP]
    exact ⟨fun h=>h.elim (fun h=>h.elim .inl fun h=> .inr (.inl h)) fun h=> .inr (.inr h),fun h=>h.elim (fun h=> .inl (.inl h)) fun h=>h.elim (fun h=> .inl (.inr h)) .inr⟩
   ·rw [jq]
    exact ⟨h,by simp,fun a ha b hb=>by simp only [bP] at hb;subst hb;exact fun e=>hx (e▸ha)⟩
inductive sN (next:cG→List cG) (x:cG):cG→Prop
 |refl:sN next x x
 |step {y z:cG}:sN next x y→z∈next y→sN next x z
theorem sN.trans {next:cG→List cG} {x y z:cG} (h1:sN next x y) (h2:sN next y z):sN next x z:=by
 induction h2 with
 |refl=>exact h1
 |step _ hz ih=>exact .step ih hz
theorem search {R:Type} {next:cG→List cG} {U:List cG} {x0:cG} (h0:x0∈U) (hU:∀x∈U,∀y∈next x,y∈U)
  {outer:Nat→List cG→Option R} {fin:List cG→Option R}
  (hend:∀i o,o.length≤U.length→o.length≤i→∀r,fin o=some r→outer i o=some r)
  (hstep:∀i o x,o.length≤U.length→(iX o (next x)).length≤U.length→o[i]? =some x→x∈U→∀r,outer (i+1) (iX o (next x))=some r→outer i o=some r):
  ∃o:List cG,o.Nodup∧(∀y,y∈o↔sN next x0 y)∧o.length≤U.length∧∀r,fin o=some r→outer 0 [x0]=some r:=by
 have key:∀(n i:Nat) (o:List cG),U.length-i=n→o.Nodup→x0∈o→(∀y∈o,y∈U∧sN next x0 y)→(∀j y,j<i→o[j]? =some y→∀z∈next y,z∈o)→
   ∃o':List cG,o'.Nodup∧(∀y,y∈o'↔sN next x0 y)∧o'.length≤U.length∧∀r,fin o'=some r→outer i o=some r:=by
  intro n
  induction n with
  |zero=>
   intro i o hn hd hx hm hc;have hlen:=js hd fun y hy=>(hm y hy).1
   refine ⟨o,hd,fun y=>⟨fun hy=>(hm y hy).2,fun hr=> ?_⟩,hlen,fun r hr=>hend i o hlen (by omega) r hr⟩
   induction hr with
   |refl=>exact hx
   |step _ hz ih=>
    obtain ⟨j,hj,e⟩:=iL.1 ih;exact hc j _ (by omega) (by rw [aH hj,e]) _ hz
  |succ n ih=>
   intro i o hn hd hx hm hc;have hlen:=js hd fun y hy=>(hm y hy).1
   by_cases hi:i<o.length
   ·have og:o[i]? =some o[i]:=aH hi
    have hxi:=hm o[i] (bF hi);obtain ⟨a1,a2,e,a3⟩:=Pk (next o[i]) o;have hm':∀y∈iX o (next o[i]),y∈U∧sN next x0 y:=fun y hy=>by
     rcases (a1 y).1 hy with h|h
     ·exact hm y h
     ·exact ⟨hU _ hxi.1 y h, .step hxi.2 h⟩
    obtain ⟨o',r1,r2,r3,r4⟩:=ih (i+1) (iX o (next o[i])) (by omega) (a2 hd) ((a1 _).2 (.inl hx)) hm' (fun j y hj hy z hz=>by
     by_cases hji:j<o.length
     ·have hyj:o[j]? =some y:=by
       rw [a3,di hji] at hy;exact hy
      by_cases e2:j=i
      ·subst e2
       rw [og] at hyj;injection hyj with hyj
       subst hyj;exact (a1 z).2 (.inr hz)
      ·exact (a1 z).2 (.inl (hc j y (by omega) hyj z hz))
     ·omega)
    exact ⟨o',r1,r2,r3,fun r hr=>hstep i o _ hlen (js (a2 hd) fun y hy=>(hm' y hy).1) og hxi.1 r (r4 r hr)⟩
   ·refine ⟨o,hd,fun y=>⟨fun hy=>(hm y hy).2,fun hr=> ?_⟩,hlen,fun r hr=>hend i o hlen (by omega) r hr⟩
    induction hr with
    |refl=>exact hx
    |step _ hz ih=>
     obtain ⟨j,hj,e⟩:=iL.1 ih;exact hc j _ (by omega) (by rw [aH hj,e]) _ hz
 exact key _ 0 [x0] rfl (by simp) (by simp) (fun y hy=>by
  simp only [bP] at hy;subst hy;exact ⟨h0, .refl⟩) (fun j y hj=>by omega)
end Go.AM
