/- The Closure laws. -/
import Derived.Test.YtmidjldjkbljjaaGreatDoorClF
import Derived.Test.YtmidjldjkbljjaaGreatDoorClO
import Derived.Test.YtmidjldjkbljjaaGreatDoorClH
set_option linter.unusedVariables false
set_option linter.unusedSimpArgs false
namespace Go.Proofs.YtmidjldjkbljjaaGreatDoor.cl
open Go Go.AM
abbrev W:=List Int
def wd (b:W) (i:Nat):Int:=b.getD i 0
def nl (b:W):Nat→Nat
 |0=>0
 |n+1=>if wd b n=0 then nl b n else n+1
def norm (b:W):W:=b.take (nl b b.length)
def uS (x y:Int):Int:=IntKind.wrap .u64 ((BitVec.ofInt (IntKind.bits .u64) x&&&BitVec.ofInt (IntKind.bits .u64) y).toNat:Int)
def YZ (x y:Int):Int:=IntKind.wrap .u64 ((BitVec.ofInt (IntKind.bits .u64) x|||BitVec.ofInt (IntKind.bits .u64) y).toNat:Int)
def oy (x y:Int):Int:=IntKind.wrap .u64 ((BitVec.ofInt (IntKind.bits .u64) x&&& ~~~BitVec.ofInt (IntKind.bits .u64) y).toNat:Int)
theorem Hs (b:W):∀n,nl b n≤n
 |0=>Nat.le_refl _
 |n+1=>by unfold nl;split;exact Nat.le_succ_of_le (Hs b n);exact Nat.le_refl _
theorem ry {b:W} {i:Nat} (h:i<b.length):b[i]=wd b i:=by simp [wd,List.getD_eq_getElem?_getD,List.getElem?_eq_getElem h]
theorem qU {b:W} {i:Nat} (h:b.length≤i):wd b i=0:=by simp [wd,List.getD_eq_getElem?_getD,List.getElem?_eq_none h]
theorem Xh (b:W) (i:Nat):f106 b i=some (wd b i):=by
 refine e106 b i ?_;by_cases h:i<b.length
 ·rw [cond_pos (by simp;omega),cu h,ry h]
 ·rw [cond_neg (by simp;omega),qU (by omega)]
theorem c107 (b:W) (i:Nat):f107 b i=some (wd b i):=by
 refine e107 b i ?_;by_cases h:i<b.length
 ·rw [cond_pos (by simp;omega),cu h,ry h]
 ·rw [cond_neg (by simp;omega),qU (by omega)]
theorem h68 (b:W) (hb:b.length≤1073741824):∀(n:Nat),n≤b.length→Il b n=some (b.take (nl b n)):=by
 intro n
 induction n with
 |zero=>
  intro hn;refine Ue b _ ?_;rw [cond_neg (by simp),aU (by simp)];simp [nl]
 |succ n ih=>
  intro hn;refine Ue b _ ?_;rw [cond_pos (by simp),qe (by omega),cu (by omega),ry];by_cases h:wd b n=0
  ·rw [cond_pos (by simpa using h),ih (by omega)]
   simp [nl,h]
  ·rw [cond_neg (by simpa using h),aU (by simp;omega)]
   have:nl b (n+1)=n+1:=by simp [nl,h]
   simp [this]
theorem c68 (b:W) (hb:b.length≤1073741824):f68 b=some (norm b):=e68 b (h68 b hb _ (Nat.le_refl _))
theorem h60 (b:W) (hb:b.length≤1073741824):∀(n:Nat),n≤b.length→Ie b n=some (b.take (nl b n)):=by
 intro n
 induction n with
 |zero=>
  intro hn;refine Ub b _ ?_;rw [cond_neg (by simp),aU (by simp),aU (by simp)];simp [nl]
 |succ n ih=>
  intro hn;refine Ub b _ ?_;rw [cond_pos (by simp),qe (by omega),cu (by omega),ry];by_cases h:wd b n=0
  ·rw [cond_pos (by simpa using h),ih (by omega)]
   simp [nl,h]
  ·rw [cond_neg (by simpa using h),aU (by simp;omega),aU (by simp;omega)]
   have:nl b (n+1)=n+1:=by simp [nl,h]
   simp [this]
theorem c60 (b:W) (hb:b.length≤1073741824):f60 b=some (norm b):=e60 b (h60 b hb _ (Nat.le_refl _))
def tab (n:Nat) (f:Nat→Int):W:=(List.range n).map f
theorem Iw (n:Nat) (f:Nat→Int):tab (n+1) f=tab n f++[f n]:=by simp [tab,List.range_succ]
theorem lg (n:Nat) (f:Nat→Int):(tab n f).length=n:=by simp [tab]
theorem RV (n:Nat) (f:Nat→Int) (i:Nat):wd (tab n f) i=if i<n then f i else 0:=by
 by_cases h:i<n<;>simp [wd,tab,List.getD_eq_getElem?_getD,List.getElem?_map,List.getElem?_range,h]
theorem h61 (a b:W) (ha:a.length≤1073741824):∀(n i:Nat),a.length-i=n→i≤a.length→
  Ii a b i (tab i fun j=>uS (wd a j) (wd b j))=some (norm (tab a.length fun j=>uS (wd a j) (wd b j))):=by
 intro n
 induction n with
 |zero=>
  intro i hi hle;have:i=a.length:=by omega
  subst this;refine Uc a b _ _ ?_;rw [cond_neg (by simp),c60 _ (by rw [lg];exact ha)];rfl
 |succ n ih=>
  intro i hi hle;refine Uc a b _ _ ?_;rw [cond_pos (by simp;omega),cu (by omega),Xh,ah,cF _ (by rw [lg];omega) (by simp) (by omega),bl (by omega),ry];have:=ih (i+1) (by omega) (by omega);rw [Iw] at this;exact this
theorem c61 (a b:W) (ha:a.length≤1073741824):f61 a b=some (norm (tab a.length fun j=>uS (wd a j) (wd b j))):=
 e61 a b (h61 a b ha _ 0 rfl (Nat.zero_le _))
theorem h108 (a b:W) (ha:a.length≤1073741824):∀(n i:Nat),a.length-i=n→i≤a.length→
  Bq a b i (tab i fun j=>oy (wd a j) (wd b j))=some (norm (tab a.length fun j=>oy (wd a j) (wd b j))):=by
 intro n
 induction n with
 |zero=>
  intro i hi hle;have:i=a.length:=by omega
  subst this;refine PV a b _ _ ?_;rw [cond_neg (by simp),c60 _ (by rw [lg];exact ha)];rfl
 |succ n ih=>
  intro i hi hle;refine PV a b _ _ ?_;rw [cond_pos (by simp;omega),cu (by omega),Xh,ah,cF _ (by rw [lg];omega) (by simp) (by omega),bl (by omega),ry];have:=ih (i+1) (by omega) (by omega);rw [Iw] at this;exact this
theorem c108 (a b:W) (ha:a.length≤1073741824):f108 a b=some (norm (tab a.length fun j=>oy (wd a j) (wd b j))):=
 e108 a b (h108 a b ha _ 0 rfl (Nat.zero_le _))
theorem minI (x y:Nat):(if (y:Int)<(x:Int) then (y:Int) else (x:Int))=((min x y:Nat):Int):=by split<;>omega
def zm (n i:Nat) (f:Nat→Int):W:=tab n fun j=>if j<i then f j else 0
theorem Na (n:Nat) (f:Nat→Int):zm n 0 f=List.replicate n 0:=by
 apply List.ext_getElem<;>simp [zm,tab]
theorem M9 (n:Nat) (f:Nat→Int):zm n n f=tab n f:=by
 apply List.ext_getElem
 ·simp [zm,tab]
 ·intro j h1 h2;simp [zm,tab] at h1⊢;intro h;omega
theorem yF (n i:Nat) (f:Nat→Int):(zm n i f).length=n:=by simp [zm,tab]
theorem Pb (n i:Nat) (f:Nat→Int) (h:i<n):(zm n i f).set i (f i)=zm n (i+1) f:=by
 apply List.ext_getElem
 ·simp [zm,tab]
 ·intro j h1 h2
  simp only [zm,tab,List.getElem_set,List.getElem_map,List.getElem_range];by_cases e:i=j
  ·subst e;simp
  ·simp only [e,if_false]
   by_cases h3:j<i
   ·simp [h3,Nat.lt_succ_of_lt h3]
   ·have:¬j<i+1:=by omega
    simp [h3,this]
theorem h29 (a b:W) (m:Nat) (hm:m≤1073741824) (ha:m≤a.length) (hb:m≤b.length):∀(n i:Nat),m-i=n→i≤m→
  DF a b m i (zm m i fun j=>uS (wd a j) (wd b j))=some (norm (tab m fun j=>uS (wd a j) (wd b j))):=by
 intro n
 induction n with
 |zero=>
  intro i hi hle;have:i=m:=by omega
  subst this;refine TV a b _ _ _ ?_;rw [cond_neg (by simp),M9,c68 _ (by rw [lg];exact hm)];rfl
 |succ n ih=>
  intro i hi hle;refine TV a b _ _ _ ?_;rw [cond_pos (by simp;omega),cu (by omega),cu (by omega),jL (by rw [yF];omega),Int.toNat_natCast,fU (by rw [yF];omega),bl (by omega),ry,ry];have:=ih (i+1) (by omega) (by omega);rw [←Pb m i _ (by omega)] at this;exact this
theorem c29 (a b:W) (ha:a.length≤1073741824) (hb:b.length≤1073741824):f29 a b=some (norm (tab (min a.length b.length) fun j=>uS (wd a j) (wd b j))):=by
 refine e29 a b ?_;simp only [minI,Int.toNat_natCast,List.length_replicate];rw [aU (by omega)];have:=h29 a b (min a.length b.length) (by omega) (by omega) (by omega) _ 0 rfl (Nat.zero_le _);rw [Na] at this;exact this
def tu (a b:W):Bool:=(List.range a.length).all fun j=>oy (wd a j) (wd b j)==0
def mj (a b:W) (i:Nat):Bool:=(List.range' i (a.length-i)).all fun j=>oy (wd a j) (wd b j)==0
theorem Fu (a b:W) (i:Nat) (h:a.length≤i):mj a b i=true:=by
 have:a.length-i=0:=by omega
 simp [mj,this]
theorem Cu (a b:W) (i:Nat) (h:i<a.length):mj a b i=(oy (wd a i) (wd b i)==0&&mj a b (i+1)):=by
 have:a.length-i=(a.length-(i+1))+1:=by omega
 rw [mj,this,List.range'_succ,List.all_cons];rfl
theorem h63 (a b:W) (ha:a.length≤1073741824):∀(n i:Nat),a.length-i=n→i≤a.length→Ij b a a.length i=some (mj a b i):=by
 intro n
 induction n with
 |zero=>
  intro i hi hle;refine Ud b a _ _ ?_;rw [cond_neg (by simp;omega),Fu a b i (by omega)]
 |succ n ih=>
  intro i hi hle;refine Ud b a _ _ ?_;rw [cond_pos (by simp;omega),cu (by omega),c107,ah,Cu a b i (by omega),ry];by_cases h:oy (wd a i) (wd b i)=0
  ·rw [cond_neg (by simpa [oy] using h),bl (by omega),ih (i+1) (by omega) (by omega)]
   simp [h]
  ·rw [cond_pos (by simpa [oy] using h)]
   simp only [show (oy (wd a i) (wd b i)==0)=false by simpa using h,Bool.false_and]
theorem c63 (a b:W) (ha:a.length≤1073741824):f63 a b=some (tu a b):=by
 refine e63 a b ?_;rw [show tu a b=mj a b 0 by simp [tu,mj,List.range_eq_range']];exact h63 a b ha _ 0 rfl (Nat.zero_le _)
theorem L8 (b:W):∀n,nl b n=0↔∀j,j<n→wd b j=0
 |0=>by simp [nl]
 |n+1=>by
  unfold nl;split
  ·rename_i h
   rw [L8 b n];constructor
   ·intro hh j hj
    by_cases e:j=n
    ·subst e;exact h
    ·exact hh j (by omega)
   ·intro hh j hj;exact hh j (by omega)
  ·rename_i h
   constructor
   ·intro hh;omega
   ·intro hh;exact absurd (hh n (by omega)) h
theorem Ru (b:W):(norm b).length=0↔∀j,j<b.length→wd b j=0:=by
 rw [norm,List.length_take,Nat.min_eq_left (Hs b _),L8]
theorem c65 (a b:W) (ha:a.length≤1073741824):f65 a b=some (tu a b):=by
 refine e65 a b ?_;rw [c108 a b ha,ah]
 congr 1
 rw [Bool.eq_iff_iff];have e:(((norm (tab a.length fun j=>oy (wd a j) (wd b j))).length:Int)==0)=((norm (tab a.length fun j=>oy (wd a j) (wd b j))).length==0):=by
  rw [Bool.eq_iff_iff];simp
 rw [e];simp only [beq_iff_eq,Ru,lg,tu,List.all_eq_true,List.mem_range];constructor
 ·intro h j hj
  have:=h j hj
  rwa [RV,if_pos hj] at this
 ·intro h j hj
  rw [RV,if_pos hj];exact h j hj
theorem c31 (a b:W) (ha:a.length≤1073741824) (hb:b.length≤1073741824):f31 a b=some (tu a b&&tu b a):=by
 refine e31 a b ?_;rw [c63 a b ha,c63 b a hb];cases tu a b<;>rfl
theorem c102 (a b:W) (ha:a.length≤1073741824) (hb:b.length≤1073741824):f102 a b=some (tu a b&&tu b a):=by
 refine e102 a b ?_;rw [c65 a b ha,c65 b a hb];cases tu a b<;>rfl
theorem h57 (a b:W) (ha:a.length≤1073741824) (hab:a.length=b.length):∀(xs:W) (i:Nat),a.drop i=xs→Mq a b i=some (decide (a.drop i=b.drop i)):=by
 intro xs
 induction xs with
 |nil=>
  intro i h;refine T9 a b _ ?_;have:=dJ h;rw [aQ h,cond_false,h,List.drop_eq_nil_of_le (by omega)];simp
 |cons x xs ih=>
  intro i h;refine T9 a b _ ?_;have hlt:=bN h;rw [aT h,cond_true,aM h,cu (by omega),aN h ha,h,List.drop_eq_getElem_cons (l:=b) (i:=i) (by omega)];have e:=ih (i+1) (az h);rw [az h] at e;by_cases hx:x=b[i]
  ·rw [cond_neg (by simpa using hx),e];simp only [hx,List.cons.injEq,true_and]
  ·rw [cond_pos (by simpa using hx)];simp only [List.cons.injEq,hx,false_and,decide_false]
theorem c57 (a b:W) (ha:a.length≤1073741824):f57 a b=some (decide (a=b)):=by
 refine e57 a b ?_;by_cases h:a.length=b.length
 ·rw [cond_neg (by simp;omega)]
  exact h57 a b ha h _ 0 rfl
 ·rw [cond_pos (by simp;omega)]
  have:a≠b:=fun e=>h (by rw [e])
  simp [this]
end Go.Proofs.YtmidjldjkbljjaaGreatDoor.cl
set_option linter.unusedVariables false
set_option linter.unusedSimpArgs false
set_option linter.unusedSectionVars false
namespace Go.Proofs.YtmidjldjkbljjaaGreatDoor.cl
open Go Go.AM
def e1 (w:Nat):W:=if w=0 then [] else [(w:Int)]
theorem eF (w:Nat):(e1 w).length≤1:=by unfold e1;split<;>simp
theorem sJ (w:Nat):wd (e1 w) 0=(w:Int):=by
 unfold e1;split
 ·rename_i h;simp [wd,h]
 ·simp [wd]
theorem K5 (w j:Nat):wd (e1 w) (j+1)=0:=qU (by have:=eF w;omega)
theorem Ef {w v:Nat} (h:e1 w=e1 v):w=v:=by
 have:=sJ w;rw [h,sJ] at this;omega
theorem mW (w:Nat):BitVec.ofInt (IntKind.bits .u64) (w:Int)=BitVec.ofNat 64 w:=BitVec.ofInt_natCast 64 w
theorem sO {w v:Nat} (hw:w<18446744073709551616) (hv:v<18446744073709551616):uS (w:Int) (v:Int)=((w&&&v:Nat):Int):=by
 unfold uS;rw [mW,mW];have h:w&&&v≤w:=Nat.and_le_left;have e:(BitVec.ofNat 64 w&&&BitVec.ofNat 64 v).toNat=w&&&v:=by
  rw [BitVec.toNat_and,BitVec.toNat_ofNat,BitVec.toNat_ofNat,Nat.mod_eq_of_lt (by simpa using hw),Nat.mod_eq_of_lt (by simpa using hv)]
 show IntKind.wrap .u64 (((BitVec.ofNat 64 w&&&BitVec.ofNat 64 v).toNat:Nat):Int)=_;rw [e,lz (by omega) (by omega)]
theorem Mh {w v:Nat} (hw:w<18446744073709551616) (hv:v<18446744073709551616):w|||v<18446744073709551616:=by
 have:=Nat.or_lt_two_pow (n:=64) (x:=w) (y:=v) (by simpa using hw) (by simpa using hv);simpa using this
theorem HB {w v:Nat} (hw:w<18446744073709551616) (hv:v<18446744073709551616):YZ (w:Int) (v:Int)=((w|||v:Nat):Int):=by
 unfold YZ;rw [mW,mW];have h:=Mh hw hv;have e:(BitVec.ofNat 64 w|||BitVec.ofNat 64 v).toNat=w|||v:=by
  rw [BitVec.toNat_or,BitVec.toNat_ofNat,BitVec.toNat_ofNat,Nat.mod_eq_of_lt (by simpa using hw),Nat.mod_eq_of_lt (by simpa using hv)]
 show IntKind.wrap .u64 (((BitVec.ofNat 64 w|||BitVec.ofNat 64 v).toNat:Nat):Int)=_;rw [e,lz (by omega) (by omega)]
theorem nh {w v:Nat} (hw:w<18446744073709551616) (hv:v<18446744073709551616):oy (w:Int) (v:Int)=0↔sub w v=true:=by
 unfold oy;rw [mW,mW];have hlt:(BitVec.ofNat 64 w&&& ~~~BitVec.ofNat 64 v).toNat<18446744073709551616:=(BitVec.ofNat 64 w&&& ~~~BitVec.ofNat 64 v).isLt;show IntKind.wrap .u64 (((BitVec.ofNat 64 w&&& ~~~BitVec.ofNat 64 v).toNat:Nat):Int)=0↔_;rw [lz (by omega) (by omega)];have e:((((BitVec.ofNat 64 w&&& ~~~BitVec.ofNat 64 v).toNat:Nat):Int)=0)↔(BitVec.ofNat 64 w&&& ~~~BitVec.ofNat 64 v).toNat=0:=by omega
 rw [e,ga];constructor
 ·intro h i hi
  have Vr:i<64:=by
   apply Classical.byContradiction;intro hc;have:w.testBit i=false:=Nat.testBit_lt_two_pow (Nat.lt_of_lt_of_le (by simpa using hw:w<2^ 64) (Nat.pow_le_pow_right (by omega) (by omega)));rw [this] at hi;cases hi
  have:=congrArg (fun x=>x.testBit i) h;simp only [BitVec.testBit_toNat,BitVec.getLsbD_and,BitVec.getLsbD_not,BitVec.getLsbD_ofNat,Vr,decide_true,Bool.true_and,hi,Nat.zero_testBit,Bool.not_eq_false'] at this;exact this
 ·intro h
  apply Nat.eq_of_testBit_eq;intro i;simp only [BitVec.testBit_toNat,BitVec.getLsbD_and,BitVec.getLsbD_not,BitVec.getLsbD_ofNat,Nat.zero_testBit];cases hi:w.testBit i with
  |false=>simp
  |true=>simp [h i hi]
theorem Nx (f:Nat→Int):norm (tab 0 f)=[]:=by simp [norm,tab]
theorem Ny (f:Nat→Int):norm (tab 1 f)=if f 0=0 then [] else [f 0]:=by
 have:tab 1 f=[f 0]:=by simp [tab,List.range_succ]
 rw [this];unfold norm;simp only [List.length_singleton,nl];have hw:wd [f 0] 0=f 0:=rfl;rw [hw];split<;>simp
theorem AW {f:Nat→Int} {n w:Nat} (hn:n≤1) (h1:n=1→f 0=(w:Int)) (h0:n=0→w=0):norm (tab n f)=e1 w:=by
 cases n with
 |zero=>rw [Nx,h0 rfl];simp [e1]
 |succ n=>
  have:n=0:=by omega
  subst this;rw [Ny,h1 rfl];unfold e1;by_cases h:w=0<;>simp [h]
theorem u5 {w:Nat} (h:(e1 w).length=0):w=0:=by
 unfold e1 at h;split at h
 ·assumption
 ·simp at h
section
variable {w v:Nat} (hw:w<18446744073709551616) (hv:v<18446744073709551616)
include hw hv
theorem o61:f61 (e1 w) (e1 v)=some (e1 (w&&&v)):=by
 have hl:=eF w;rw [c61 _ _ (by omega)]
 congr 1
 refine AW hl (fun _=> ?_) (fun h=> ?_)
 ·rw [sJ,sJ,sO hw hv]
 ·rw [u5 h];simp
theorem Hv:f29 (e1 w) (e1 v)=some (e1 (w&&&v)):=by
 have hl:=eF w;have hl':=eF v;rw [c29 _ _ (by omega) (by omega)]
 congr 1
 refine AW (by omega) (fun _=> ?_) (fun h=> ?_)
 ·rw [sJ,sJ,sO hw hv]
 ·by_cases h0:(e1 w).length=0
  ·rw [u5 h0];simp
  ·rw [u5 (show (e1 v).length=0 by omega)];simp
theorem Mk:tu (e1 w) (e1 v)=sub w v:=by
 rw [Bool.eq_iff_iff];simp only [tu,List.all_eq_true,List.mem_range,beq_iff_eq];have hl:=eF w;constructor
 ·intro h
  by_cases h0:(e1 w).length=0
  ·rw [u5 h0];exact ga.2 fun i hi=>by simp at hi
  ·have:=h 0 (by omega)
   rwa [sJ,sJ,nh hw hv] at this
 ·intro h j hj
  have:j=0:=by omega
  subst this;rw [sJ,sJ,nh hw hv];exact h
theorem o63:f63 (e1 w) (e1 v)=some (sub w v):=by
 rw [c63 _ _ (by have:=eF w;omega),Mk hw hv]
theorem o65:f65 (e1 w) (e1 v)=some (sub w v):=by
 rw [c65 _ _ (by have:=eF w;omega),Mk hw hv]
theorem o57:f57 (e1 w) (e1 v)=some (decide (w=v)):=by
 rw [c57 _ _ (by have:=eF w;omega)]
 congr 1
 rw [decide_eq_decide];exact ⟨Ef,fun h=>by rw [h]⟩
end
theorem Hr {a b:W} (h:∀j,wd a j=wd b j):∀n,nl a n=nl b n
 |0=>rfl
 |n+1=>by unfold nl;rw [h n,Hr h n]
theorem Rt (a:W):∀n,a.length≤n→nl a n=nl a a.length:=by
 intro n hn
 induction n with
 |zero=>rw [show a.length=0 by omega]
 |succ n ih=>
  by_cases h:a.length=n+1
  ·rw [h]
  ·rw [←ih (by omega)]
   show (if wd a n=0 then nl a n else n+1)=_;rw [if_pos (qU (by omega))]
theorem Hu {a b:W} (h:∀j,wd a j=wd b j):norm a=norm b:=by
 have hn:nl a a.length=nl b b.length:=by
  rw [←Rt a (max a.length b.length) (by omega),←Rt b (max a.length b.length) (by omega),Hr h]
 unfold norm;apply List.ext_getElem
 ·simp only [List.length_take]
  have:=Hs a a.length;have:=Hs b b.length;omega
 ·intro j h1 h2
  simp only [List.getElem_take];simp only [List.length_take] at h1 h2;rw [ry,ry,h j]
theorem Wl {a:W}:∀n j,nl a n≤j→j<n→wd a j=0:=by
 intro n
 induction n with
 |zero=>intro j _ h;omega
 |succ n ih=>
  intro j h1 h2;unfold nl at h1;split at h1
  ·rename_i h
   by_cases e:j=n
   ·subst e;exact h
   ·exact ih j h1 (by omega)
  ·omega
theorem MA (a:W) (j:Nat):wd (norm a) j=wd a j:=by
 unfold norm;by_cases h:j<nl a a.length
 ·have hl:=Hs a a.length
  rw [wd,List.getD_eq_getElem?_getD,List.getElem?_take_of_lt h,wd,List.getD_eq_getElem?_getD]
 ·rw [qU (by simp;omega)]
  by_cases h2:j<a.length
  ·exact (Wl _ _ (by omega) h2).symm
  ·exact (qU (by omega)).symm
theorem og (w:Nat):norm (e1 w)=e1 w:=by
 unfold e1;split
 ·rfl
 ·rename_i h
  have:wd [(w:Int)] 0=(w:Int):=rfl;have h2:(w:Int)≠0:=by omega
  simp [norm,nl,this,h2,h]
def WI (b:W):Prop:=∀x∈b,0≤x∧x<18446744073709551616
theorem FL {b:W} (h:WI b) (j:Nat):∃w:Nat,wd b j=(w:Int)∧w<18446744073709551616:=by
 by_cases hj:j<b.length
 ·have:=h _ (List.getElem_mem hj)
  rw [ry] at this;exact ⟨(wd b j).toNat,by omega,by omega⟩
 ·exact ⟨0,by rw [qU (by omega)];rfl,by omega⟩
theorem xQ {a b:W} (ha:WI a) (hb:WI b):(tu a b&&tu b a)=decide (norm a=norm b):=by
 rw [Bool.eq_iff_iff];simp only [Bool.and_eq_true,decide_eq_true_eq,tu,List.all_eq_true,List.mem_range,beq_iff_eq];constructor
 ·rintro ⟨h1,h2⟩
  apply Hu;intro j;obtain ⟨x,hx,hxl⟩:=FL ha j;obtain ⟨y,hy,VO⟩:=FL hb j;have s1:sub x y=true:=by
   by_cases hj:j<a.length
   ·have:=h1 j hj;rwa [hx,hy,nh hxl VO] at this
   ·rw [qU (by omega)] at hx
    have:x=0:=by omega
    subst this;exact ga.2 fun i hi=>by simp at hi
  have s2:sub y x=true:=by
   by_cases hj:j<b.length
   ·have:=h2 j hj;rwa [hx,hy,nh VO hxl] at this
   ·rw [qU (by omega)] at hy
    have:y=0:=by omega
    subst this;exact ga.2 fun i hi=>by simp at hi
  rw [hx,hy,vZ s1 s2]
 ·intro h
  have hw:∀j,wd a j=wd b j:=fun j=>by rw [←MA a,h,MA]
  constructor
  ·intro j _
   obtain ⟨x,hx,hxl⟩:=FL ha j;rw [←hw,hx,nh hxl hxl];exact mh _
  ·intro j _
   obtain ⟨x,hx,hxl⟩:=FL ha j;rw [←hw,hx,nh hxl hxl];exact mh _
theorem yj {w:Nat} (hw:w<18446744073709551616):WI (e1 w):=by
 intro x hx;unfold e1 at hx;split at hx
 ·cases hx
 ·simp only [List.mem_singleton] at hx;subst hx;omega
structure Cd (l:List ak) (cs:List Nat):Prop where
 eq:l.map (·.Code)=cs.map e1
 lt:∀c∈cs,c<18446744073709551616
 len:cs.length≤1048576
theorem Cd.length {l:List ak} {cs:List Nat} (h:Cd l cs):l.length=cs.length:=by
 have:=congrArg List.length h.eq;simpa using this
theorem Cd.code {l:List ak} {cs:List Nat} (h:Cd l cs) {i:Nat} (hi:i<l.length):l[i].Code=e1 (cs.getD i 0):=by
 have hi':i<cs.length:=by rw [←h.length];exact hi
 have:=congrArg (fun m=>m[i]?) h.eq;simp only [List.getElem?_map,List.getElem?_eq_getElem hi,List.getElem?_eq_getElem hi',Option.map_some,Option.some.injEq] at this;rw [this,List.getD_eq_getElem?_getD,List.getElem?_eq_getElem hi'];rfl
theorem Cd.get {l:List ak} {cs:List Nat} (h:Cd l cs) {i:Nat} (hi:i<cs.length):cs.getD i 0<18446744073709551616:=h.lt _ (gW hi)
theorem Cd.mem {l:List ak} {cs:List Nat} (h:Cd l cs) {x:ak} (hx:x∈l):∃c,c∈cs∧x.Code=e1 c:=by
 have:x.Code∈l.map (·.Code):=List.mem_map_of_mem hx;rw [h.eq,List.mem_map] at this;obtain ⟨c,hc,e⟩:=this;exact ⟨c,hc,e.symm⟩
theorem h58 {l:List ak} {cs:List Nat} (H:Cd l cs) {code:W} (hc:WI code) (rS:code.length≤1073741824):∀(xs:List ak) (i:Nat),l.drop i=xs→
  Ib code l l.length i=some (bJ (fun x=>decide (x.Code=norm code)) xs i):=by
 have hl:l.length≤1073741824:=by have:=H.len;rw [H.length];omega
 intro xs
 induction xs with
 |nil=>
  intro i h;refine Ua _ _ _ _ ?_;rw [aQ h];rfl
 |cons x xs ih=>
  intro i h;refine Ua _ _ _ _ ?_;have hx:x∈l:=by rw [←List.take_append_drop i l,h];simp
  obtain ⟨c,hcm,e⟩:=H.mem hx;have h59:f59 x code=some (decide (x.Code=norm code)):=by
   refine e59 _ _ ?_;have hclt:=H.lt c hcm;rw [e,c31 _ _ (by have:=eF c;omega) rS,xQ (yj hclt) hc,og];rfl
  rw [aT h,cond_true,aM h,h59,ah,aN h hl,ih (i+1) (az h),bJ];cases decide (x.Code=norm code)<;>rfl
theorem c18 {l:List ak} {cs:List Nat} (H:Cd l cs) {code:W} (hc:WI code) (rS:code.length≤1073741824):f18 l code=some (bJ (fun x=>decide (x.Code=norm code)) l 0):=by
 refine e18 _ _ ?_;have:f58 l code=some (bJ (fun x=>decide (x.Code=norm code)) l 0):=e58 _ _ (h58 H hc rS l 0 rfl);rw [this];rfl
theorem h19 {l:List ak} (hl:l.length≤1073741824) (hs:∀x∈l,x.Code.length≤1073741824) (n:W):∀(xs:List ak) (i:Nat),l.drop i=xs→
  Ml l n i=some (bJ (fun x=>decide (x.Code=n)) xs i):=by
 intro xs
 induction xs with
 |nil=>
  intro i h;refine TU _ _ _ ?_;rw [aQ h];rfl
 |cons x xs ih=>
  intro i h;refine TU _ _ _ ?_;have hx:x∈l:=by rw [←List.take_append_drop i l,h];simp
  rw [aT h,cond_true,aM h,c57 _ _ (hs x hx),ah,aN h hl,ih (i+1) (az h),bJ];cases decide (x.Code=n)<;>rfl
theorem c19 {l:List ak} {cs:List Nat} (H:Cd l cs) {code:W} (rS:code.length≤1073741824):f19 l code=some (bJ (fun x=>decide (x.Code=norm code)) l 0):=by
 refine e19 _ _ ?_;rw [c60 _ rS,ah];refine h19 (by have:=H.len;rw [H.length];omega) (fun x hx=> ?_) _ l 0 rfl;obtain ⟨c,_,e⟩:=H.mem hx;rw [e];have:=eF c;omega
theorem VU:∀(l:List ak) (cs:List Nat) (w i:Nat),l.map (·.Code)=cs.map e1→
  bJ (fun x=>decide (x.Code=e1 w)) l i=match cs.findIdx? (· ==w) with
   |some j=>((i+j:Nat):Int)
   |none=> -1:=by
 intro l
 induction l with
 |nil=>
  intro cs w i h;cases cs with
  |nil=>rfl
  |cons c cs=>simp at h
 |cons x l ih=>
  intro cs w i h;cases cs with
  |nil=>simp at h
  |cons c cs=>
   simp only [List.map_cons,List.cons.injEq] at h;rw [bJ,ih cs w (i+1) h.2,List.findIdx?_cons];by_cases e:c=w
   ·subst e;simp [h.1]
   ·have h1:¬(x.Code=e1 w):=by rw [h.1];exact fun e'=>e (Ef e')
    have h2:(c==w)=false:=by simpa using e
    simp only [h1,decide_false,Bool.false_eq_true,if_false,h2];cases cs.findIdx? (· ==w) with
    |none=>rfl
    |some j=>
     show (((i+1)+j:Nat):Int)=((i+(j+1):Nat):Int)
     rw [Nat.add_assoc,Nat.add_comm 1 j]
theorem LD {l:List ak} {cs:List Nat} (H:Cd l cs) (w:Nat):bJ (fun x=>decide (x.Code=e1 w)) l 0=FM cs w:=by
 rw [VU l cs w 0 H.eq,FM];cases cs.findIdx? (· ==w)<;>simp
theorem o18 {l:List ak} {cs:List Nat} (H:Cd l cs) {w:Nat} (hw:w<18446744073709551616):f18 l (e1 w)=some (FM cs w):=by
 rw [c18 H (yj hw) (by have:=eF w;omega),og,LD H]
theorem o19 {l:List ak} {cs:List Nat} (H:Cd l cs) (w:Nat):f19 l (e1 w)=some (FM cs w):=by
 rw [c19 H (by have:=eF w;omega),og,LD H]
section
variable {l:List ak} {cs:List Nat} (H:Cd l cs) {i j:Nat} (hi:i<cs.length) (hj:j<cs.length)
include H hi hj
theorem pZ:f24 l i j=some (sub (cs.getD j 0) (cs.getD i 0)):=by
 refine e24 _ _ _ ?_;have hl:=H.length;rw [cu (by omega),cu (by omega),H.code,H.code,o63 (H.get hj) (H.get hi)];rfl
theorem o25:f25 l i j=some (sub (cs.getD j 0) (cs.getD i 0)):=by
 refine e25 _ _ _ ?_;have hl:=H.length;rw [cu (by omega),cu (by omega),H.code,H.code,o65 (H.get hj) (H.get hi)];rfl
end
abbrev cast (l:List Nat):List Int:=l.map fun n:Nat=>(n:Int)
theorem fC {l:List Nat} {i:Nat} {x:Nat} {xs:List Nat} (h:l.drop i=x::xs):(cast l).drop i=(x:Int)::cast xs:=by
 rw [←List.map_drop,h];rfl
theorem uZ {l:List Nat} {i:Nat} (h:l.drop i=[]):(cast l).drop i=[]:=by rw [←List.map_drop,h];rfl
end Go.Proofs.YtmidjldjkbljjaaGreatDoor.cl
