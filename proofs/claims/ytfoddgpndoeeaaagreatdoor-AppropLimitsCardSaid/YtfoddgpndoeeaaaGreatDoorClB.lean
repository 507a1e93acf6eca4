/- The Closure laws. -/
import Derived.Test.YtfoddgpndoeeaaaGreatDoorClF
import Derived.Test.YtfoddgpndoeeaaaGreatDoorClO
import Derived.Test.YtfoddgpndoeeaaaGreatDoorClH
set_option linter.unusedVariables false
set_option linter.unusedSimpArgs false
namespace Go.Proofs.YtfoddgpndoeeaaaGreatDoor.cl
open Go Go.AM
abbrev W:=List Int
def wd (b:W) (i:Nat):Int:=b.getD i 0
def nl (b:W):Nat→Nat
 |0=>0
 |n+1=>if wd b n=0 then nl b n else n+1
def norm (b:W):W:=b.take (nl b b.length)
def EG (x y:Int):Int:=IntKind.wrap .u64 ((BitVec.ofInt (IntKind.bits .u64) x&&&BitVec.ofInt (IntKind.bits .u64) y).toNat:Int)
def V5 (x y:Int):Int:=IntKind.wrap .u64 ((BitVec.ofInt (IntKind.bits .u64) x|||BitVec.ofInt (IntKind.bits .u64) y).toNat:Int)
def vg (x y:Int):Int:=IntKind.wrap .u64 ((BitVec.ofInt (IntKind.bits .u64) x&&& ~~~BitVec.ofInt (IntKind.bits .u64) y).toNat:Int)
theorem Ko (b:W):∀n,nl b n≤n
 |0=>Nat.le_refl _
 |n+1=>by unfold nl;split;exact Nat.le_succ_of_le (Ko b n);exact Nat.le_refl _
theorem xV {b:W} {i:Nat} (h:i<b.length):b[i]=wd b i:=by simp [wd,List.getD_eq_getElem?_getD,List.getElem?_eq_getElem h]
theorem tW {b:W} {i:Nat} (h:b.length≤i):wd b i=0:=by simp [wd,List.getD_eq_getElem?_getD,List.getElem?_eq_none h]
theorem c107 (b:W) (i:Nat):f107 b i=some (wd b i):=by
 refine e107 b i ?_;by_cases h:i<b.length
 ·rw [cond_pos (by simp;omega),fR h,xV h]
 ·rw [cond_neg (by simp;omega),tW (by omega)]
theorem h68 (b:W) (hb:b.length≤1073741824):∀(n:Nat),n≤b.length→GH b n=some (b.take (nl b n)):=by
 intro n
 induction n with
 |zero=>
  intro hn;refine RN b _ ?_;rw [cond_neg (by simp),bg (by simp)];simp [nl]
 |succ n ih=>
  intro hn;refine RN b _ ?_;rw [cond_pos (by simp),Cv (by omega),fR (by omega),xV];by_cases h:wd b n=0
  ·rw [cond_pos (by simpa using h),ih (by omega)]
   simp [nl,h]
  ·rw [cond_neg (by simpa using h),bg (by simp;omega)]
   have:nl b (n+1)=n+1:=by simp [nl,h]
   simp [this]
theorem c68 (b:W) (hb:b.length≤1073741824):f68 b=some (norm b):=e68 b (h68 b hb _ (Nat.le_refl _))
def tab (n:Nat) (f:Nat→Int):W:=(List.range n).map f
theorem JB (n:Nat) (f:Nat→Int):(tab n f).length=n:=by simp [tab]
theorem minI (x y:Nat):(if (y:Int)<(x:Int) then (y:Int) else (x:Int))=((min x y:Nat):Int):=by split<;>omega
def x6 (n i:Nat) (f:Nat→Int):W:=tab n fun j=>if j<i then f j else 0
theorem K8 (n:Nat) (f:Nat→Int):x6 n 0 f=List.replicate n 0:=by
 apply List.ext_getElem<;>simp [x6,tab]
theorem K7 (n:Nat) (f:Nat→Int):x6 n n f=tab n f:=by
 apply List.ext_getElem
 ·simp [x6,tab]
 ·intro j h1 h2;simp [x6,tab] at h1⊢;intro h;omega
theorem xd (n i:Nat) (f:Nat→Int):(x6 n i f).length=n:=by simp [x6,tab]
theorem Nl (n i:Nat) (f:Nat→Int) (h:i<n):(x6 n i f).set i (f i)=x6 n (i+1) f:=by
 apply List.ext_getElem
 ·simp [x6,tab]
 ·intro j h1 h2
  simp only [x6,tab,List.getElem_set,List.getElem_map,List.getElem_range];by_cases e:i=j
  ·subst e;simp
  ·simp only [e,if_false]
   by_cases h3:j<i
   ·simp [h3,Nat.lt_succ_of_lt h3]
   ·have:¬j<i+1:=by omega
    simp [h3,this]
theorem h29 (a b:W) (m:Nat) (hm:m≤1073741824) (ha:m≤a.length) (hb:m≤b.length):∀(n i:Nat),m-i=n→i≤m→
  Cj a b m i (x6 m i fun j=>EG (wd a j) (wd b j))=some (norm (tab m fun j=>EG (wd a j) (wd b j))):=by
 intro n
 induction n with
 |zero=>
  intro i hi hle;have:i=m:=by omega
  subst this;refine RG a b _ _ _ ?_;rw [cond_neg (by simp),K7,c68 _ (by rw [JB];exact hm)];rfl
 |succ n ih=>
  intro i hi hle;refine RG a b _ _ _ ?_;rw [cond_pos (by simp;omega),fR (by omega),fR (by omega),qH (by rw [xd];omega),Int.toNat_natCast,mQ (by rw [xd];omega),cg (by omega),xV,xV];have:=ih (i+1) (by omega) (by omega);rw [←Nl m i _ (by omega)] at this;exact this
theorem c29 (a b:W) (ha:a.length≤1073741824) (hb:b.length≤1073741824):f29 a b=some (norm (tab (min a.length b.length) fun j=>EG (wd a j) (wd b j))):=by
 refine e29 a b ?_;simp only [minI,Int.toNat_natCast,List.length_replicate];rw [bg (by omega)];have:=h29 a b (min a.length b.length) (by omega) (by omega) (by omega) _ 0 rfl (Nat.zero_le _);rw [K8] at this;exact this
def Ak (a b:W):Bool:=(List.range a.length).all fun j=>vg (wd a j) (wd b j)==0
def lB (a b:W) (i:Nat):Bool:=(List.range' i (a.length-i)).all fun j=>vg (wd a j) (wd b j)==0
theorem Ed (a b:W) (i:Nat) (h:a.length≤i):lB a b i=true:=by
 have:a.length-i=0:=by omega
 simp [lB,this]
theorem Bd (a b:W) (i:Nat) (h:i<a.length):lB a b i=(vg (wd a i) (wd b i)==0&&lB a b (i+1)):=by
 have:a.length-i=(a.length-(i+1))+1:=by omega
 rw [lB,this,List.range'_succ,List.all_cons];rfl
theorem h63 (a b:W) (ha:a.length≤1073741824):∀(n i:Nat),a.length-i=n→i≤a.length→GG b a a.length i=some (lB a b i):=by
 intro n
 induction n with
 |zero=>
  intro i hi hle;refine RM b a _ _ ?_;rw [cond_neg (by simp;omega),Ed a b i (by omega)]
 |succ n ih=>
  intro i hi hle;refine RM b a _ _ ?_;rw [cond_pos (by simp;omega),fR (by omega),c107,aj,Bd a b i (by omega),xV];by_cases h:vg (wd a i) (wd b i)=0
  ·rw [cond_neg (by simpa [vg] using h),cg (by omega),ih (i+1) (by omega) (by omega)]
   simp [h]
  ·rw [cond_pos (by simpa [vg] using h)]
   simp only [show (vg (wd a i) (wd b i)==0)=false by simpa using h,Bool.false_and]
theorem c63 (a b:W) (ha:a.length≤1073741824):f63 a b=some (Ak a b):=by
 refine e63 a b ?_;rw [show Ak a b=lB a b 0 by simp [Ak,lB,List.range_eq_range']];exact h63 a b ha _ 0 rfl (Nat.zero_le _)
theorem c31 (a b:W) (ha:a.length≤1073741824) (hb:b.length≤1073741824):f31 a b=some (Ak a b&&Ak b a):=by
 refine e31 a b ?_;rw [c63 a b ha,c63 b a hb];cases Ak a b<;>rfl
end Go.Proofs.YtfoddgpndoeeaaaGreatDoor.cl
set_option linter.unusedVariables false
set_option linter.unusedSimpArgs false
set_option linter.unusedSectionVars false
namespace Go.Proofs.YtfoddgpndoeeaaaGreatDoor.cl
open Go Go.AM
def e1 (w:Nat):W:=if w=0 then [] else [(w:Int)]
theorem jF (w:Nat):(e1 w).length≤1:=by unfold e1;split<;>simp
theorem xW (w:Nat):wd (e1 w) 0=(w:Int):=by
 unfold e1;split
 ·rename_i h;simp [wd,h]
 ·simp [wd]
theorem MT {w v:Nat} (h:e1 w=e1 v):w=v:=by
 have:=xW w;rw [h,xW] at this;omega
theorem l6 (w:Nat):BitVec.ofInt (IntKind.bits .u64) (w:Int)=BitVec.ofNat 64 w:=BitVec.ofInt_natCast 64 w
theorem Bt {w v:Nat} (hw:w<18446744073709551616) (hv:v<18446744073709551616):EG (w:Int) (v:Int)=((w&&&v:Nat):Int):=by
 unfold EG;rw [l6,l6];have h:w&&&v≤w:=Nat.and_le_left;have e:(BitVec.ofNat 64 w&&&BitVec.ofNat 64 v).toNat=w&&&v:=by
  rw [BitVec.toNat_and,BitVec.toNat_ofNat,BitVec.toNat_ofNat,Nat.mod_eq_of_lt (by simpa using hw),Nat.mod_eq_of_lt (by simpa using hv)]
 show IntKind.wrap .u64 (((BitVec.ofNat 64 w&&&BitVec.ofNat 64 v).toNat:Nat):Int)=_;rw [e,kM (by omega) (by omega)]
theorem OU {w v:Nat} (hw:w<18446744073709551616) (hv:v<18446744073709551616):w|||v<18446744073709551616:=by
 have:=Nat.or_lt_two_pow (n:=64) (x:=w) (y:=v) (by simpa using hw) (by simpa using hv);simpa using this
theorem OT {w v:Nat} (hw:w<18446744073709551616) (hv:v<18446744073709551616):V5 (w:Int) (v:Int)=((w|||v:Nat):Int):=by
 unfold V5;rw [l6,l6];have h:=OU hw hv;have e:(BitVec.ofNat 64 w|||BitVec.ofNat 64 v).toNat=w|||v:=by
  rw [BitVec.toNat_or,BitVec.toNat_ofNat,BitVec.toNat_ofNat,Nat.mod_eq_of_lt (by simpa using hw),Nat.mod_eq_of_lt (by simpa using hv)]
 show IntKind.wrap .u64 (((BitVec.ofNat 64 w|||BitVec.ofNat 64 v).toNat:Nat):Int)=_;rw [e,kM (by omega) (by omega)]
theorem l9 {w v:Nat} (hw:w<18446744073709551616) (hv:v<18446744073709551616):vg (w:Int) (v:Int)=0↔sub w v=true:=by
 unfold vg;rw [l6,l6];have hlt:(BitVec.ofNat 64 w&&& ~~~BitVec.ofNat 64 v).toNat<18446744073709551616:=(BitVec.ofNat 64 w&&& ~~~BitVec.ofNat 64 v).isLt;show IntKind.wrap .u64 (((BitVec.ofNat 64 w&&& ~~~BitVec.ofNat 64 v).toNat:Nat):Int)=0↔_;rw [kM (by omega) (by omega)];have e:((((BitVec.ofNat 64 w&&& ~~~BitVec.ofNat 64 v).toNat:Nat):Int)=0)↔(BitVec.ofNat 64 w&&& ~~~BitVec.ofNat 64 v).toNat=0:=by omega
 rw [e,gV];constructor
 ·intro h i hi
  have SZ:i<64:=by
   apply Classical.byContradiction;intro hc;have:w.testBit i=false:=Nat.testBit_lt_two_pow (Nat.lt_of_lt_of_le (by simpa using hw:w<2^ 64) (Nat.pow_le_pow_right (by omega) (by omega)));rw [this] at hi;cases hi
  have:=congrArg (fun x=>x.testBit i) h;simp only [BitVec.testBit_toNat,BitVec.getLsbD_and,BitVec.getLsbD_not,BitVec.getLsbD_ofNat,SZ,decide_true,Bool.true_and,hi,Nat.zero_testBit,Bool.not_eq_false'] at this;exact this
 ·intro h
  apply Nat.eq_of_testBit_eq;intro i;simp only [BitVec.testBit_toNat,BitVec.getLsbD_and,BitVec.getLsbD_not,BitVec.getLsbD_ofNat,Nat.zero_testBit];cases hi:w.testBit i with
  |false=>simp
  |true=>simp [h i hi]
theorem LC (f:Nat→Int):norm (tab 0 f)=[]:=by simp [norm,tab]
theorem LD (f:Nat→Int):norm (tab 1 f)=if f 0=0 then [] else [f 0]:=by
 have:tab 1 f=[f 0]:=by simp [tab,List.range_succ]
 rw [this];unfold norm;simp only [List.length_singleton,nl];have hw:wd [f 0] 0=f 0:=rfl;rw [hw];split<;>simp
theorem F4 {f:Nat→Int} {n w:Nat} (hn:n≤1) (h1:n=1→f 0=(w:Int)) (h0:n=0→w=0):norm (tab n f)=e1 w:=by
 cases n with
 |zero=>rw [LC,h0 rfl];simp [e1]
 |succ n=>
  have:n=0:=by omega
  subst this;rw [LD,h1 rfl];unfold e1;by_cases h:w=0<;>simp [h]
theorem CO {w:Nat} (h:(e1 w).length=0):w=0:=by
 unfold e1 at h;split at h
 ·assumption
 ·simp at h
section
variable {w v:Nat} (hw:w<18446744073709551616) (hv:v<18446744073709551616)
include hw hv
theorem F5:f29 (e1 w) (e1 v)=some (e1 (w&&&v)):=by
 have hl:=jF w;have hl':=jF v;rw [c29 _ _ (by omega) (by omega)]
 congr 1
 refine F4 (by omega) (fun _=> ?_) (fun h=> ?_)
 ·rw [xW,xW,Bt hw hv]
 ·by_cases h0:(e1 w).length=0
  ·rw [CO h0];simp
  ·rw [CO (show (e1 v).length=0 by omega)];simp
theorem QT:Ak (e1 w) (e1 v)=sub w v:=by
 rw [Bool.eq_iff_iff];simp only [Ak,List.all_eq_true,List.mem_range,beq_iff_eq];have hl:=jF w;constructor
 ·intro h
  by_cases h0:(e1 w).length=0
  ·rw [CO h0];exact gV.2 fun i hi=>by simp at hi
  ·have:=h 0 (by omega)
   rwa [xW,xW,l9 hw hv] at this
 ·intro h j hj
  have:j=0:=by omega
  subst this;rw [xW,xW,l9 hw hv];exact h
theorem o63:f63 (e1 w) (e1 v)=some (sub w v):=by
 rw [c63 _ _ (by have:=jF w;omega),QT hw hv]
end
theorem F1 {a b:W} (h:∀j,wd a j=wd b j):∀n,nl a n=nl b n
 |0=>rfl
 |n+1=>by unfold nl;rw [h n,F1 h n]
theorem ON (a:W):∀n,a.length≤n→nl a n=nl a a.length:=by
 intro n hn
 induction n with
 |zero=>rw [show a.length=0 by omega]
 |succ n ih=>
  by_cases h:a.length=n+1
  ·rw [h]
  ·rw [←ih (by omega)]
   show (if wd a n=0 then nl a n else n+1)=_;rw [if_pos (tW (by omega))]
theorem OP {a b:W} (h:∀j,wd a j=wd b j):norm a=norm b:=by
 have hn:nl a a.length=nl b b.length:=by
  rw [←ON a (max a.length b.length) (by omega),←ON b (max a.length b.length) (by omega),F1 h]
 unfold norm;apply List.ext_getElem
 ·simp only [List.length_take]
  have:=Ko a a.length;have:=Ko b b.length;omega
 ·intro j h1 h2
  simp only [List.getElem_take];simp only [List.length_take] at h1 h2;rw [xV,xV,h j]
theorem TF {a:W}:∀n j,nl a n≤j→j<n→wd a j=0:=by
 intro n
 induction n with
 |zero=>intro j _ h;omega
 |succ n ih=>
  intro j h1 h2;unfold nl at h1;split at h1
  ·rename_i h
   by_cases e:j=n
   ·subst e;exact h
   ·exact ih j h1 (by omega)
  ·omega
theorem KG (a:W) (j:Nat):wd (norm a) j=wd a j:=by
 unfold norm;by_cases h:j<nl a a.length
 ·have hl:=Ko a a.length
  rw [wd,List.getD_eq_getElem?_getD,List.getElem?_take_of_lt h,wd,List.getD_eq_getElem?_getD]
 ·rw [tW (by simp;omega)]
  by_cases h2:j<a.length
  ·exact (TF _ _ (by omega) h2).symm
  ·exact (tW (by omega)).symm
theorem yy (w:Nat):norm (e1 w)=e1 w:=by
 unfold e1;split
 ·rfl
 ·rename_i h
  have:wd [(w:Int)] 0=(w:Int):=rfl;have h2:(w:Int)≠0:=by omega
  simp [norm,nl,this,h2,h]
def T8 (b:W):Prop:=∀x∈b,0≤x∧x<18446744073709551616
theorem Eo {b:W} (h:T8 b) (j:Nat):∃w:Nat,wd b j=(w:Int)∧w<18446744073709551616:=by
 by_cases hj:j<b.length
 ·have:=h _ (List.getElem_mem hj)
  rw [xV] at this;exact ⟨(wd b j).toNat,by omega,by omega⟩
 ·exact ⟨0,by rw [tW (by omega)];rfl,by omega⟩
theorem Ci {a b:W} (ha:T8 a) (hb:T8 b):(Ak a b&&Ak b a)=decide (norm a=norm b):=by
 rw [Bool.eq_iff_iff];simp only [Bool.and_eq_true,decide_eq_true_eq,Ak,List.all_eq_true,List.mem_range,beq_iff_eq];constructor
 ·rintro ⟨h1,h2⟩
  apply OP;intro j;obtain ⟨x,hx,hxl⟩:=Eo ha j;obtain ⟨y,hy,Ti⟩:=Eo hb j;have s1:sub x y=true:=by
   by_cases hj:j<a.length
   ·have:=h1 j hj;rwa [hx,hy,l9 hxl Ti] at this
   ·rw [tW (by omega)] at hx
    have:x=0:=by omega
    subst this;exact gV.2 fun i hi=>by simp at hi
  have s2:sub y x=true:=by
   by_cases hj:j<b.length
   ·have:=h2 j hj;rwa [hx,hy,l9 Ti hxl] at this
   ·rw [tW (by omega)] at hy
    have:y=0:=by omega
    subst this;exact gV.2 fun i hi=>by simp at hi
  rw [hx,hy,vh s1 s2]
 ·intro h
  have hw:∀j,wd a j=wd b j:=fun j=>by rw [←KG a,h,KG]
  constructor
  ·intro j _
   obtain ⟨x,hx,hxl⟩:=Eo ha j;rw [←hw,hx,l9 hxl hxl];exact vi _
  ·intro j _
   obtain ⟨x,hx,hxl⟩:=Eo ha j;rw [←hw,hx,l9 hxl hxl];exact vi _
theorem En {w:Nat} (hw:w<18446744073709551616):T8 (e1 w):=by
 intro x hx;unfold e1 at hx;split at hx
 ·cases hx
 ·simp only [List.mem_singleton] at hx;subst hx;omega
structure Cd (l:List aB) (cs:List Nat):Prop where
 eq:l.map (·.Code)=cs.map e1
 lt:∀c∈cs,c<18446744073709551616
 len:cs.length≤1048576
theorem Cd.length {l:List aB} {cs:List Nat} (h:Cd l cs):l.length=cs.length:=by
 have:=congrArg List.length h.eq;simpa using this
theorem Cd.code {l:List aB} {cs:List Nat} (h:Cd l cs) {i:Nat} (hi:i<l.length):l[i].Code=e1 (cs.getD i 0):=by
 have hi':i<cs.length:=by rw [←h.length];exact hi
 have:=congrArg (fun m=>m[i]?) h.eq;simp only [List.getElem?_map,List.getElem?_eq_getElem hi,List.getElem?_eq_getElem hi',Option.map_some,Option.some.injEq] at this;rw [this,List.getD_eq_getElem?_getD,List.getElem?_eq_getElem hi'];rfl
theorem Cd.get {l:List aB} {cs:List Nat} (h:Cd l cs) {i:Nat} (hi:i<cs.length):cs.getD i 0<18446744073709551616:=h.lt _ (kE hi)
theorem Cd.mem {l:List aB} {cs:List Nat} (h:Cd l cs) {x:aB} (hx:x∈l):∃c,c∈cs∧x.Code=e1 c:=by
 have:x.Code∈l.map (·.Code):=List.mem_map_of_mem hx;rw [h.eq,List.mem_map] at this;obtain ⟨c,hc,e⟩:=this;exact ⟨c,hc,e.symm⟩
theorem h58 {l:List aB} {cs:List Nat} (H:Cd l cs) {code:W} (hc:T8 code) (CY:code.length≤1073741824):∀(xs:List aB) (i:Nat),l.drop i=xs→
  GF code l l.length i=some (bX (fun x=>decide (x.Code=norm code)) xs i):=by
 have hl:l.length≤1073741824:=by have:=H.len;rw [H.length];omega
 intro xs
 induction xs with
 |nil=>
  intro i h;refine RL _ _ _ _ ?_;rw [bS h];rfl
 |cons x xs ih=>
  intro i h;refine RL _ _ _ _ ?_;have hx:x∈l:=by rw [←List.take_append_drop i l,h];simp
  obtain ⟨c,hcm,e⟩:=H.mem hx;have h59:f59 x code=some (decide (x.Code=norm code)):=by
   refine e59 _ _ ?_;have hclt:=H.lt c hcm;rw [e,c31 _ _ (by have:=jF c;omega) CY,Ci (En hclt) hc,yy];rfl
  rw [bR h,cond_true,bW h,h59,aj,bB h hl,ih (i+1) (bf h),bX];cases decide (x.Code=norm code)<;>rfl
theorem c18 {l:List aB} {cs:List Nat} (H:Cd l cs) {code:W} (hc:T8 code) (CY:code.length≤1073741824):f18 l code=some (bX (fun x=>decide (x.Code=norm code)) l 0):=by
 refine e18 _ _ ?_;have:f58 l code=some (bX (fun x=>decide (x.Code=norm code)) l 0):=e58 _ _ (h58 H hc CY l 0 rfl);rw [this];rfl
theorem To:∀(l:List aB) (cs:List Nat) (w i:Nat),l.map (·.Code)=cs.map e1→
  bX (fun x=>decide (x.Code=e1 w)) l i=match cs.findIdx? (· ==w) with
   |some j=>((i+j:Nat):Int)
   |none=> -1:=by
 intro l
 induction l with
 |nil=>
  intro cs w i h;cases cs with
  |nil=>rfl
  |cons c cs=>simp at h
 |cons x l ih=>
  intro cs w i h;cases cs with
  |nil=>simp at h
  |cons c cs=>
   simp only [List.map_cons,List.cons.injEq] at h;rw [bX,ih cs w (i+1) h.2,List.findIdx?_cons];by_cases e:c=w
   ·subst e;simp [h.1]
   ·have h1:¬(x.Code=e1 w):=by rw [h.1];exact fun e'=>e (MT e')
    have h2:(c==w)=false:=by simpa using e
    simp only [h1,decide_false,Bool.false_eq_true,if_false,h2];cases cs.findIdx? (· ==w) with
    |none=>rfl
    |some j=>
     show (((i+1)+j:Nat):Int)=((i+(j+1):Nat):Int)
     rw [Nat.add_assoc,Nat.add_comm 1 j]
theorem Qt {l:List aB} {cs:List Nat} (H:Cd l cs) (w:Nat):bX (fun x=>decide (x.Code=e1 w)) l 0=Ni cs w:=by
 rw [To l cs w 0 H.eq,Ni];cases cs.findIdx? (· ==w)<;>simp
theorem o18 {l:List aB} {cs:List Nat} (H:Cd l cs) {w:Nat} (hw:w<18446744073709551616):f18 l (e1 w)=some (Ni cs w):=by
 rw [c18 H (En hw) (by have:=jF w;omega),yy,Qt H]
section
variable {l:List aB} {cs:List Nat} (H:Cd l cs) {i j:Nat} (hi:i<cs.length) (hj:j<cs.length)
include H hi hj
theorem qy:f24 l i j=some (sub (cs.getD j 0) (cs.getD i 0)):=by
 refine e24 _ _ _ ?_;have hl:=H.length;rw [fR (by omega),fR (by omega),H.code,H.code,o63 (H.get hj) (H.get hi)];rfl
end
abbrev cast (l:List Nat):List Int:=l.map fun n:Nat=>(n:Int)
theorem iA {l:List Nat} {i:Nat} {x:Nat} {xs:List Nat} (h:l.drop i=x::xs):(cast l).drop i=(x:Int)::cast xs:=by
 rw [←List.map_drop,h];rfl
theorem yR {l:List Nat} {i:Nat} (h:l.drop i=[]):(cast l).drop i=[]:=by rw [←List.map_drop,h];rfl
end Go.Proofs.YtfoddgpndoeeaaaGreatDoor.cl
