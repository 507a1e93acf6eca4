/- The Closure laws. -/
import Derived.Test.YtmidjldjkbljjaaGreatDoorClF
import Derived.Test.YtmidjldjkbljjaaGreatDoorClO
import Derived.Test.YtmidjldjkbljjaaGreatDoorClH
set_option linter.unusedVariables false
set_option linter.unusedSimpArgs false
namespace Go.Proofs.YtmidjldjkbljjaaGreatDoor.cl
open Go Go.AM
abbrev W:=List Int
def wd (b:W) (i:Nat):Int:=b.getD i 0
def nl (b:W):Nat→Nat
 |0=>0
 |n+1=>if wd b n=0 then nl b n else n+1
def norm (b:W):W:=b.take (nl b b.length)
def vJ (x y:Int):Int:=IntKind.wrap .u64 ((BitVec.ofInt (IntKind.bits .u64) x&&&BitVec.ofInt (IntKind.bits .u64) y).toNat:Int)
def IY (x y:Int):Int:=IntKind.wrap .u64 ((BitVec.ofInt (IntKind.bits .u64) x|||BitVec.ofInt (IntKind.bits .u64) y).toNat:Int)
def pn (x y:Int):Int:=IntKind.wrap .u64 ((BitVec.ofInt (IntKind.bits .u64) x&&& ~~~BitVec.ofInt (IntKind.bits .u64) y).toNat:Int)
theorem IP (b:W):∀n,nl b n≤n
 |0=>Nat.le_refl _
 |n+1=>by unfold nl;split;exact Nat.le_succ_of_le (IP b n);exact Nat.le_refl _
theorem sg {b:W} {i:Nat} (h:i<b.length):b[i]=wd b i:=by simp [wd,List.getD_eq_getElem?_getD,List.getElem?_eq_getElem h]
theorem rS {b:W} {i:Nat} (h:b.length≤i):wd b i=0:=by simp [wd,List.getD_eq_getElem?_getD,List.getElem?_eq_none h]
theorem T7 (b:W) (i:Nat):f106 b i=some (wd b i):=by
 refine e106 b i ?_;by_cases h:i<b.length
 ·rw [cond_pos (by simp;omega),bG h,sg h]
 ·rw [cond_neg (by simp;omega),rS (by omega)]
theorem WR (b:W) (i:Nat):f107 b i=some (wd b i):=by
 refine e107 b i ?_;by_cases h:i<b.length
 ·rw [cond_pos (by simp;omega),bG h,sg h]
 ·rw [cond_neg (by simp;omega),rS (by omega)]
theorem h68 (b:W) (hb:b.length≤1073741824):∀(n:Nat),n≤b.length→JA b n=some (b.take (nl b n)):=by
 intro n
 induction n with
 |zero=>
  intro hn;refine Wa b _ ?_;rw [cond_neg (by simp),aV (by simp)];simp [nl]
 |succ n ih=>
  intro hn;refine Wa b _ ?_;rw [cond_pos (by simp),uk (by omega),bG (by omega),sg];by_cases h:wd b n=0
  ·rw [cond_pos (by simpa using h),ih (by omega)]
   simp [nl,h]
  ·rw [cond_neg (by simpa using h),aV (by simp;omega)]
   have:nl b (n+1)=n+1:=by simp [nl,h]
   simp [this]
theorem c68 (b:W) (hb:b.length≤1073741824):f68 b=some (norm b):=e68 b (h68 b hb _ (Nat.le_refl _))
theorem h60 (b:W) (hb:b.length≤1073741824):∀(n:Nat),n≤b.length→Jw b n=some (b.take (nl b n)):=by
 intro n
 induction n with
 |zero=>
  intro hn;refine V2 b _ ?_;rw [cond_neg (by simp),aV (by simp),aV (by simp)];simp [nl]
 |succ n ih=>
  intro hn;refine V2 b _ ?_;rw [cond_pos (by simp),uk (by omega),bG (by omega),sg];by_cases h:wd b n=0
  ·rw [cond_pos (by simpa using h),ih (by omega)]
   simp [nl,h]
  ·rw [cond_neg (by simpa using h),aV (by simp;omega),aV (by simp;omega)]
   have:nl b (n+1)=n+1:=by simp [nl,h]
   simp [this]
theorem Zg (b:W) (hb:b.length≤1073741824):f60 b=some (norm b):=e60 b (h60 b hb _ (Nat.le_refl _))
def tab (n:Nat) (f:Nat→Int):W:=(List.range n).map f
theorem CR (n:Nat) (f:Nat→Int):tab (n+1) f=tab n f++[f n]:=by simp [tab,List.range_succ]
theorem gN (n:Nat) (f:Nat→Int):(tab n f).length=n:=by simp [tab]
theorem TO (n:Nat) (f:Nat→Int) (i:Nat):wd (tab n f) i=if i<n then f i else 0:=by
 by_cases h:i<n<;>simp [wd,tab,List.getD_eq_getElem?_getD,List.getElem?_map,List.getElem?_range,h]
theorem h61 (a b:W) (ha:a.length≤1073741824):∀(n i:Nat),a.length-i=n→i≤a.length→
  Jx a b i (tab i fun j=>vJ (wd a j) (wd b j))=some (norm (tab a.length fun j=>vJ (wd a j) (wd b j))):=by
 intro n
 induction n with
 |zero=>
  intro i hi hle;have:i=a.length:=by omega
  subst this;refine V5 a b _ _ ?_;rw [cond_neg (by simp),Zg _ (by rw [gN];exact ha)];rfl
 |succ n ih=>
  intro i hi hle;refine V5 a b _ _ ?_;rw [cond_pos (by simp;omega),bG (by omega),T7,ah,cg _ (by rw [gN];omega) (by simp) (by omega),bh (by omega),sg];have:=ih (i+1) (by omega) (by omega);rw [CR] at this;exact this
theorem c61 (a b:W) (ha:a.length≤1073741824):f61 a b=some (norm (tab a.length fun j=>vJ (wd a j) (wd b j))):=
 e61 a b (h61 a b ha _ 0 rfl (Nat.zero_le _))
theorem h108 (a b:W) (ha:a.length≤1073741824):∀(n i:Nat),a.length-i=n→i≤a.length→
  Ck a b i (tab i fun j=>pn (wd a j) (wd b j))=some (norm (tab a.length fun j=>pn (wd a j) (wd b j))):=by
 intro n
 induction n with
 |zero=>
  intro i hi hle;have:i=a.length:=by omega
  subst this;refine RJ a b _ _ ?_;rw [cond_neg (by simp),Zg _ (by rw [gN];exact ha)];rfl
 |succ n ih=>
  intro i hi hle;refine RJ a b _ _ ?_;rw [cond_pos (by simp;omega),bG (by omega),T7,ah,cg _ (by rw [gN];omega) (by simp) (by omega),bh (by omega),sg];have:=ih (i+1) (by omega) (by omega);rw [CR] at this;exact this
theorem c108 (a b:W) (ha:a.length≤1073741824):f108 a b=some (norm (tab a.length fun j=>pn (wd a j) (wd b j))):=
 e108 a b (h108 a b ha _ 0 rfl (Nat.zero_le _))
theorem Ye (x y:Nat):(if (y:Int)>(x:Int) then (y:Int) else (x:Int))=((max x y:Nat):Int):=by split<;>omega
theorem minI (x y:Nat):(if (y:Int)<(x:Int) then (y:Int) else (x:Int))=((min x y:Nat):Int):=by split<;>omega
def x9 (n i:Nat) (f:Nat→Int):W:=tab n fun j=>if j<i then f j else 0
theorem D7 (n:Nat) (f:Nat→Int):x9 n 0 f=List.replicate n 0:=by
 apply List.ext_getElem<;>simp [x9,tab]
theorem D6 (n:Nat) (f:Nat→Int):x9 n n f=tab n f:=by
 apply List.ext_getElem
 ·simp [x9,tab]
 ·intro j h1 h2;simp [x9,tab] at h1⊢;intro h;omega
theorem oL (n i:Nat) (f:Nat→Int):(x9 n i f).length=n:=by simp [x9,tab]
theorem HY (n i:Nat) (f:Nat→Int) (h:i<n):(x9 n i f).set i (f i)=x9 n (i+1) f:=by
 apply List.ext_getElem
 ·simp [x9,tab]
 ·intro j h1 h2
  simp only [x9,tab,List.getElem_set,List.getElem_map,List.getElem_range];by_cases e:i=j
  ·subst e;simp
  ·simp only [e,if_false]
   by_cases h3:j<i
   ·simp [h3,Nat.lt_succ_of_lt h3]
   ·have:¬j<i+1:=by omega
    simp [h3,this]
theorem h62 (a b:W) (m:Nat) (hm:m≤1073741824):∀(n i:Nat),m-i=n→i≤m→
  EO a b m i (x9 m i fun j=>IY (wd a j) (wd b j))=some (norm (tab m fun j=>IY (wd a j) (wd b j))):=by
 intro n
 induction n with
 |zero=>
  intro i hi hle;have:i=m:=by omega
  subst this;refine V6 a b _ _ _ ?_;rw [cond_neg (by simp),D6,c68 _ (by rw [gN];exact hm)];rfl
 |succ n ih=>
  intro i hi hle;refine V6 a b _ _ _ ?_;rw [cond_pos (by simp;omega),WR,ah,WR,ah,nH (by rw [oL];omega),Int.toNat_natCast,mT (by rw [oL];omega),bh (by omega)];have:=ih (i+1) (by omega) (by omega);rw [←HY m i _ (by omega)] at this;exact this
theorem h29 (a b:W) (m:Nat) (hm:m≤1073741824) (ha:m≤a.length) (hb:m≤b.length):∀(n i:Nat),m-i=n→i≤m→
  EJ a b m i (x9 m i fun j=>vJ (wd a j) (wd b j))=some (norm (tab m fun j=>vJ (wd a j) (wd b j))):=by
 intro n
 induction n with
 |zero=>
  intro i hi hle;have:i=m:=by omega
  subst this;refine VO a b _ _ _ ?_;rw [cond_neg (by simp),D6,c68 _ (by rw [gN];exact hm)];rfl
 |succ n ih=>
  intro i hi hle;refine VO a b _ _ _ ?_;rw [cond_pos (by simp;omega),bG (by omega),bG (by omega),nH (by rw [oL];omega),Int.toNat_natCast,mT (by rw [oL];omega),bh (by omega),sg,sg];have:=ih (i+1) (by omega) (by omega);rw [←HY m i _ (by omega)] at this;exact this
theorem c29 (a b:W) (ha:a.length≤1073741824) (hb:b.length≤1073741824):f29 a b=some (norm (tab (min a.length b.length) fun j=>vJ (wd a j) (wd b j))):=by
 refine e29 a b ?_;simp only [minI,Int.toNat_natCast,List.length_replicate];rw [aV (by omega)];have:=h29 a b (min a.length b.length) (by omega) (by omega) (by omega) _ 0 rfl (Nat.zero_le _);rw [D7] at this;exact this
theorem c62 (a b:W) (ha:a.length≤1073741824) (hb:b.length≤1073741824):f62 a b=some (norm (tab (max a.length b.length) fun j=>IY (wd a j) (wd b j))):=by
 refine e62 a b ?_;simp only [Ye,Int.toNat_natCast,List.length_replicate];rw [aV (by omega)];have:=h62 a b (max a.length b.length) (by omega) _ 0 rfl (Nat.zero_le _);rw [D7] at this;exact this
def ur (a b:W):Bool:=(List.range a.length).all fun j=>pn (wd a j) (wd b j)==0
def mC (a b:W) (i:Nat):Bool:=(List.range' i (a.length-i)).all fun j=>pn (wd a j) (wd b j)==0
theorem Gz (a b:W) (i:Nat) (h:a.length≤i):mC a b i=true:=by
 have:a.length-i=0:=by omega
 simp [mC,this]
theorem DC (a b:W) (i:Nat) (h:i<a.length):mC a b i=(pn (wd a i) (wd b i)==0&&mC a b (i+1)):=by
 have:a.length-i=(a.length-(i+1))+1:=by omega
 rw [mC,this,List.range'_succ,List.all_cons];rfl
theorem h63 (a b:W) (ha:a.length≤1073741824):∀(n i:Nat),a.length-i=n→i≤a.length→Jy b a a.length i=some (mC a b i):=by
 intro n
 induction n with
 |zero=>
  intro i hi hle;refine V7 b a _ _ ?_;rw [cond_neg (by simp;omega),Gz a b i (by omega)]
 |succ n ih=>
  intro i hi hle;refine V7 b a _ _ ?_;rw [cond_pos (by simp;omega),bG (by omega),WR,ah,DC a b i (by omega),sg];by_cases h:pn (wd a i) (wd b i)=0
  ·rw [cond_neg (by simpa [pn] using h),bh (by omega),ih (i+1) (by omega) (by omega)]
   simp [h]
  ·rw [cond_pos (by simpa [pn] using h)]
   simp only [show (pn (wd a i) (wd b i)==0)=false by simpa using h,Bool.false_and]
theorem c63 (a b:W) (ha:a.length≤1073741824):f63 a b=some (ur a b):=by
 refine e63 a b ?_;rw [show ur a b=mC a b 0 by simp [ur,mC,List.range_eq_range']];exact h63 a b ha _ 0 rfl (Nat.zero_le _)
theorem Nx (b:W):∀n,nl b n=0↔∀j,j<n→wd b j=0
 |0=>by simp [nl]
 |n+1=>by
  unfold nl;split
  ·rename_i h
   rw [Nx b n];constructor
   ·intro hh j hj
    by_cases e:j=n
    ·subst e;exact h
    ·exact hh j (by omega)
   ·intro hh j hj;exact hh j (by omega)
  ·rename_i h
   constructor
   ·intro hh;omega
   ·intro hh;exact absurd (hh n (by omega)) h
theorem Tk (b:W):(norm b).length=0↔∀j,j<b.length→wd b j=0:=by
 rw [norm,List.length_take,Nat.min_eq_left (IP b _),Nx]
theorem c65 (a b:W) (ha:a.length≤1073741824):f65 a b=some (ur a b):=by
 refine e65 a b ?_;rw [c108 a b ha,ah]
 congr 1
 rw [Bool.eq_iff_iff];have e:(((norm (tab a.length fun j=>pn (wd a j) (wd b j))).length:Int)==0)=((norm (tab a.length fun j=>pn (wd a j) (wd b j))).length==0):=by
  rw [Bool.eq_iff_iff];simp
 rw [e];simp only [beq_iff_eq,Tk,gN,ur,List.all_eq_true,List.mem_range];constructor
 ·intro h j hj
  have:=h j hj
  rwa [TO,if_pos hj] at this
 ·intro h j hj
  rw [TO,if_pos hj];exact h j hj
theorem c31 (a b:W) (ha:a.length≤1073741824) (hb:b.length≤1073741824):f31 a b=some (ur a b&&ur b a):=by
 refine e31 a b ?_;rw [c63 a b ha,c63 b a hb];cases ur a b<;>rfl
theorem c102 (a b:W) (ha:a.length≤1073741824) (hb:b.length≤1073741824):f102 a b=some (ur a b&&ur b a):=by
 refine e102 a b ?_;rw [c65 a b ha,c65 b a hb];cases ur a b<;>rfl
theorem h57 (a b:W) (ha:a.length≤1073741824) (hab:a.length=b.length):∀(xs:W) (i:Nat),a.drop i=xs→NR a b i=some (decide (a.drop i=b.drop i)):=by
 intro xs
 induction xs with
 |nil=>
  intro i h;refine V0 a b _ ?_;have:=dM h;rw [aP h,cond_false,h,List.drop_eq_nil_of_le (by omega)];simp
 |cons x xs ih=>
  intro i h;refine V0 a b _ ?_;have hlt:=bL h;rw [aU h,cond_true,aL h,bG (by omega),aM h ha,h,List.drop_eq_getElem_cons (l:=b) (i:=i) (by omega)];have e:=ih (i+1) (az h);rw [az h] at e;by_cases hx:x=b[i]
  ·rw [cond_neg (by simpa using hx),e];simp only [hx,List.cons.injEq,true_and]
  ·rw [cond_pos (by simpa using hx)];simp only [List.cons.injEq,hx,false_and,decide_false]
theorem c57 (a b:W) (ha:a.length≤1073741824):f57 a b=some (decide (a=b)):=by
 refine e57 a b ?_;by_cases h:a.length=b.length
 ·rw [cond_neg (by simp;omega)]
  exact h57 a b ha h _ 0 rfl
 ·rw [cond_pos (by simp;omega)]
  have:a≠b:=fun e=>h (by rw [e])
  simp [this]
theorem h26 (a b:W) (ha:a.length≤1073741824) (hab:a.length=b.length):∀(xs:W) (i:Nat),a.drop i=xs→NM a b i=some (decide (a.drop i=b.drop i)):=by
 intro xs
 induction xs with
 |nil=>
  intro i h;refine VJ a b _ ?_;have:=dM h;rw [aP h,cond_false,h,List.drop_eq_nil_of_le (by omega)];simp
 |cons x xs ih=>
  intro i h;refine VJ a b _ ?_;have hlt:=bL h;rw [aU h,cond_true,aL h,bG (by omega),aM h ha,h,List.drop_eq_getElem_cons (l:=b) (i:=i) (by omega)];have e:=ih (i+1) (az h);rw [az h] at e;by_cases hx:x=b[i]
  ·rw [cond_neg (by simpa using hx),e];simp only [hx,List.cons.injEq,true_and]
  ·rw [cond_pos (by simpa using hx)];simp only [List.cons.injEq,hx,false_and,decide_false]
theorem c26 (a b:W) (ha:a.length≤1073741824):f26 a b=some (decide (a=b)):=by
 refine e26 a b ?_;by_cases h:a.length=b.length
 ·rw [cond_neg (by simp;omega)]
  exact h26 a b ha h _ 0 rfl
 ·rw [cond_pos (by simp;omega)]
  have:a≠b:=fun e=>h (by rw [e])
  simp [this]
end Go.Proofs.YtmidjldjkbljjaaGreatDoor.cl
set_option linter.unusedVariables false
set_option linter.unusedSimpArgs false
set_option linter.unusedSectionVars false
namespace Go.Proofs.YtmidjldjkbljjaaGreatDoor.cl
open Go Go.AM
def e1 (w:Nat):W:=if w=0 then [] else [(w:Int)]
theorem dI (w:Nat):(e1 w).length≤1:=by unfold e1;split<;>simp
theorem ou (w:Nat):wd (e1 w) 0=(w:Int):=by
 unfold e1;split
 ·rename_i h;simp [wd,h]
 ·simp [wd]
theorem Ml (w j:Nat):wd (e1 w) (j+1)=0:=rS (by have:=dI w;omega)
theorem Fl {w v:Nat} (h:e1 w=e1 v):w=v:=by
 have:=ou w;rw [h,ou] at this;omega
theorem nt (w:Nat):BitVec.ofInt (IntKind.bits .u64) (w:Int)=BitVec.ofNat 64 w:=BitVec.ofInt_natCast 64 w
theorem tO {w v:Nat} (hw:w<18446744073709551616) (hv:v<18446744073709551616):vJ (w:Int) (v:Int)=((w&&&v:Nat):Int):=by
 unfold vJ;rw [nt,nt];have h:w&&&v≤w:=Nat.and_le_left;have e:(BitVec.ofNat 64 w&&&BitVec.ofNat 64 v).toNat=w&&&v:=by
  rw [BitVec.toNat_and,BitVec.toNat_ofNat,BitVec.toNat_ofNat,Nat.mod_eq_of_lt (by simpa using hw),Nat.mod_eq_of_lt (by simpa using hv)]
 show IntKind.wrap .u64 (((BitVec.ofNat 64 w&&&BitVec.ofNat 64 v).toNat:Nat):Int)=_;rw [e,lH (by omega) (by omega)]
theorem BQ {w v:Nat} (hw:w<18446744073709551616) (hv:v<18446744073709551616):w|||v<18446744073709551616:=by
 have:=Nat.or_lt_two_pow (n:=64) (x:=w) (y:=v) (by simpa using hw) (by simpa using hv);simpa using this
theorem wS {w v:Nat} (hw:w<18446744073709551616) (hv:v<18446744073709551616):IY (w:Int) (v:Int)=((w|||v:Nat):Int):=by
 unfold IY;rw [nt,nt];have h:=BQ hw hv;have e:(BitVec.ofNat 64 w|||BitVec.ofNat 64 v).toNat=w|||v:=by
  rw [BitVec.toNat_or,BitVec.toNat_ofNat,BitVec.toNat_ofNat,Nat.mod_eq_of_lt (by simpa using hw),Nat.mod_eq_of_lt (by simpa using hv)]
 show IntKind.wrap .u64 (((BitVec.ofNat 64 w|||BitVec.ofNat 64 v).toNat:Nat):Int)=_;rw [e,lH (by omega) (by omega)]
theorem ny {w v:Nat} (hw:w<18446744073709551616) (hv:v<18446744073709551616):pn (w:Int) (v:Int)=0↔sub w v=true:=by
 unfold pn;rw [nt,nt];have hlt:(BitVec.ofNat 64 w&&& ~~~BitVec.ofNat 64 v).toNat<18446744073709551616:=(BitVec.ofNat 64 w&&& ~~~BitVec.ofNat 64 v).isLt;show IntKind.wrap .u64 (((BitVec.ofNat 64 w&&& ~~~BitVec.ofNat 64 v).toNat:Nat):Int)=0↔_;rw [lH (by omega) (by omega)];have e:((((BitVec.ofNat 64 w&&& ~~~BitVec.ofNat 64 v).toNat:Nat):Int)=0)↔(BitVec.ofNat 64 w&&& ~~~BitVec.ofNat 64 v).toNat=0:=by omega
 rw [e,eX];constructor
 ·intro h i hi
  have Xn:i<64:=by
   apply Classical.byContradiction;intro hc;have:w.testBit i=false:=Nat.testBit_lt_two_pow (Nat.lt_of_lt_of_le (by simpa using hw:w<2^ 64) (Nat.pow_le_pow_right (by omega) (by omega)));rw [this] at hi;cases hi
  have:=congrArg (fun x=>x.testBit i) h;simp only [BitVec.testBit_toNat,BitVec.getLsbD_and,BitVec.getLsbD_not,BitVec.getLsbD_ofNat,Xn,decide_true,Bool.true_and,hi,Nat.zero_testBit,Bool.not_eq_false'] at this;exact this
 ·intro h
  apply Nat.eq_of_testBit_eq;intro i;simp only [BitVec.testBit_toNat,BitVec.getLsbD_and,BitVec.getLsbD_not,BitVec.getLsbD_ofNat,Nat.zero_testBit];cases hi:w.testBit i with
  |false=>simp
  |true=>simp [h i hi]
theorem O0 (f:Nat→Int):norm (tab 0 f)=[]:=by simp [norm,tab]
theorem O1 (f:Nat→Int):norm (tab 1 f)=if f 0=0 then [] else [f 0]:=by
 have:tab 1 f=[f 0]:=by simp [tab,List.range_succ]
 rw [this];unfold norm;simp only [List.length_singleton,nl];have hw:wd [f 0] 0=f 0:=rfl;rw [hw];split<;>simp
theorem sX {f:Nat→Int} {n w:Nat} (hn:n≤1) (h1:n=1→f 0=(w:Int)) (h0:n=0→w=0):norm (tab n f)=e1 w:=by
 cases n with
 |zero=>rw [O0,h0 rfl];simp [e1]
 |succ n=>
  have:n=0:=by omega
  subst this;rw [O1,h1 rfl];unfold e1;by_cases h:w=0<;>simp [h]
theorem lP {w:Nat} (h:(e1 w).length=0):w=0:=by
 unfold e1 at h;split at h
 ·assumption
 ·simp at h
section
variable {w v:Nat} (hw:w<18446744073709551616) (hv:v<18446744073709551616)
include hw hv
theorem o61:f61 (e1 w) (e1 v)=some (e1 (w&&&v)):=by
 have hl:=dI w;rw [c61 _ _ (by omega)]
 congr 1
 refine sX hl (fun _=> ?_) (fun h=> ?_)
 ·rw [ou,ou,tO hw hv]
 ·rw [lP h];simp
theorem Dp:f29 (e1 w) (e1 v)=some (e1 (w&&&v)):=by
 have hl:=dI w;have hl':=dI v;rw [c29 _ _ (by omega) (by omega)]
 congr 1
 refine sX (by omega) (fun _=> ?_) (fun h=> ?_)
 ·rw [ou,ou,tO hw hv]
 ·by_cases h0:(e1 w).length=0
  ·rw [lP h0];simp
  ·rw [lP (show (e1 v).length=0 by omega)];simp
theorem o62:f62 (e1 w) (e1 v)=some (e1 (w|||v)):=by
 have hl:=dI w;have hl':=dI v;rw [c62 _ _ (by omega) (by omega)]
 congr 1
 refine sX (by omega) (fun _=> ?_) (fun h=> ?_)
 ·rw [ou,ou,wS hw hv]
 ·rw [lP (show (e1 w).length=0 by omega),lP (show (e1 v).length=0 by omega)];simp
theorem NK:ur (e1 w) (e1 v)=sub w v:=by
 rw [Bool.eq_iff_iff];simp only [ur,List.all_eq_true,List.mem_range,beq_iff_eq];have hl:=dI w;constructor
 ·intro h
  by_cases h0:(e1 w).length=0
  ·rw [lP h0];exact eX.2 fun i hi=>by simp at hi
  ·have:=h 0 (by omega)
   rwa [ou,ou,ny hw hv] at this
 ·intro h j hj
  have:j=0:=by omega
  subst this;rw [ou,ou,ny hw hv];exact h
theorem Wv:f63 (e1 w) (e1 v)=some (sub w v):=by
 rw [c63 _ _ (by have:=dI w;omega),NK hw hv]
theorem o65:f65 (e1 w) (e1 v)=some (sub w v):=by
 rw [c65 _ _ (by have:=dI w;omega),NK hw hv]
theorem o57:f57 (e1 w) (e1 v)=some (decide (w=v)):=by
 rw [c57 _ _ (by have:=dI w;omega)]
 congr 1
 rw [decide_eq_decide];exact ⟨Fl,fun h=>by rw [h]⟩
end
theorem IN {a b:W} (h:∀j,wd a j=wd b j):∀n,nl a n=nl b n
 |0=>rfl
 |n+1=>by unfold nl;rw [h n,IN h n]
theorem Tj (a:W):∀n,a.length≤n→nl a n=nl a a.length:=by
 intro n hn
 induction n with
 |zero=>rw [show a.length=0 by omega]
 |succ n ih=>
  by_cases h:a.length=n+1
  ·rw [h]
  ·rw [←ih (by omega)]
   show (if wd a n=0 then nl a n else n+1)=_;rw [if_pos (rS (by omega))]
theorem IT {a b:W} (h:∀j,wd a j=wd b j):norm a=norm b:=by
 have hn:nl a a.length=nl b b.length:=by
  rw [←Tj a (max a.length b.length) (by omega),←Tj b (max a.length b.length) (by omega),IN h]
 unfold norm;apply List.ext_getElem
 ·simp only [List.length_take]
  have:=IP a a.length;have:=IP b b.length;omega
 ·intro j h1 h2
  simp only [List.getElem_take];simp only [List.length_take] at h1 h2;rw [sg,sg,h j]
theorem Yg {a:W}:∀n j,nl a n≤j→j<n→wd a j=0:=by
 intro n
 induction n with
 |zero=>intro j _ h;omega
 |succ n ih=>
  intro j h1 h2;unfold nl at h1;split at h1
  ·rename_i h
   by_cases e:j=n
   ·subst e;exact h
   ·exact ih j h1 (by omega)
  ·omega
theorem N1 (a:W) (j:Nat):wd (norm a) j=wd a j:=by
 unfold norm;by_cases h:j<nl a a.length
 ·have hl:=IP a a.length
  rw [wd,List.getD_eq_getElem?_getD,List.getElem?_take_of_lt h,wd,List.getD_eq_getElem?_getD]
 ·rw [rS (by simp;omega)]
  by_cases h2:j<a.length
  ·exact (Yg _ _ (by omega) h2).symm
  ·exact (rS (by omega)).symm
theorem oR (w:Nat):norm (e1 w)=e1 w:=by
 unfold e1;split
 ·rfl
 ·rename_i h
  have:wd [(w:Int)] 0=(w:Int):=rfl;have h2:(w:Int)≠0:=by omega
  simp [norm,nl,this,h2,h]
def YE (b:W):Prop:=∀x∈b,0≤x∧x<18446744073709551616
theorem G0 {b:W} (h:YE b) (j:Nat):∃w:Nat,wd b j=(w:Int)∧w<18446744073709551616:=by
 by_cases hj:j<b.length
 ·have:=h _ (List.getElem_mem hj)
  rw [sg] at this;exact ⟨(wd b j).toNat,by omega,by omega⟩
 ·exact ⟨0,by rw [rS (by omega)];rfl,by omega⟩
theorem yQ {a b:W} (ha:YE a) (hb:YE b):(ur a b&&ur b a)=decide (norm a=norm b):=by
 rw [Bool.eq_iff_iff];simp only [Bool.and_eq_true,decide_eq_true_eq,ur,List.all_eq_true,List.mem_range,beq_iff_eq];constructor
 ·rintro ⟨h1,h2⟩
  apply IT;intro j;obtain ⟨x,hx,hxl⟩:=G0 ha j;obtain ⟨y,hy,XI⟩:=G0 hb j;have s1:sub x y=true:=by
   by_cases hj:j<a.length
   ·have:=h1 j hj;rwa [hx,hy,ny hxl XI] at this
   ·rw [rS (by omega)] at hx
    have:x=0:=by omega
    subst this;exact eX.2 fun i hi=>by simp at hi
  have s2:sub y x=true:=by
   by_cases hj:j<b.length
   ·have:=h2 j hj;rwa [hx,hy,ny XI hxl] at this
   ·rw [rS (by omega)] at hy
    have:y=0:=by omega
    subst this;exact eX.2 fun i hi=>by simp at hi
  rw [hx,hy,rK s1 s2]
 ·intro h
  have hw:∀j,wd a j=wd b j:=fun j=>by rw [←N1 a,h,N1]
  constructor
  ·intro j _
   obtain ⟨x,hx,hxl⟩:=G0 ha j;rw [←hw,hx,ny hxl hxl];exact qH _
  ·intro j _
   obtain ⟨x,hx,hxl⟩:=G0 ha j;rw [←hw,hx,ny hxl hxl];exact qH _
theorem zj {w:Nat} (hw:w<18446744073709551616):YE (e1 w):=by
 intro x hx;unfold e1 at hx;split at hx
 ·cases hx
 ·simp only [List.mem_singleton] at hx;subst hx;omega
structure Cd (l:List aq) (cs:List Nat):Prop where
 eq:l.map (·.Code)=cs.map e1
 lt:∀c∈cs,c<18446744073709551616
 len:cs.length≤1048576
theorem Cd.length {l:List aq} {cs:List Nat} (h:Cd l cs):l.length=cs.length:=by
 have:=congrArg List.length h.eq;simpa using this
theorem Cd.code {l:List aq} {cs:List Nat} (h:Cd l cs) {i:Nat} (hi:i<l.length):l[i].Code=e1 (cs.getD i 0):=by
 have hi':i<cs.length:=by rw [←h.length];exact hi
 have:=congrArg (fun m=>m[i]?) h.eq;simp only [List.getElem?_map,List.getElem?_eq_getElem hi,List.getElem?_eq_getElem hi',Option.map_some,Option.some.injEq] at this;rw [this,List.getD_eq_getElem?_getD,List.getElem?_eq_getElem hi'];rfl
theorem Cd.get {l:List aq} {cs:List Nat} (h:Cd l cs) {i:Nat} (hi:i<cs.length):cs.getD i 0<18446744073709551616:=h.lt _ (dO hi)
theorem Cd.mem {l:List aq} {cs:List Nat} (h:Cd l cs) {x:aq} (hx:x∈l):∃c,c∈cs∧x.Code=e1 c:=by
 have:x.Code∈l.map (·.Code):=List.mem_map_of_mem hx;rw [h.eq,List.mem_map] at this;obtain ⟨c,hc,e⟩:=this;exact ⟨c,hc,e.symm⟩
theorem h58 {l:List aq} {cs:List Nat} (H:Cd l cs) {code:W} (hc:YE code) (xS:code.length≤1073741824):∀(xs:List aq) (i:Nat),l.drop i=xs→
  Jv code l l.length i=some (bI (fun x=>decide (x.Code=norm code)) xs i):=by
 have hl:l.length≤1073741824:=by have:=H.len;rw [H.length];omega
 intro xs
 induction xs with
 |nil=>
  intro i h;refine V1 _ _ _ _ ?_;rw [aP h];rfl
 |cons x xs ih=>
  intro i h;refine V1 _ _ _ _ ?_;have hx:x∈l:=by rw [←List.take_append_drop i l,h];simp
  obtain ⟨c,hcm,e⟩:=H.mem hx;have h59:f59 x code=some (decide (x.Code=norm code)):=by
   refine e59 _ _ ?_;have Bm:=H.lt c hcm;rw [e,c31 _ _ (by have:=dI c;omega) xS,yQ (zj Bm) hc,oR];rfl
  rw [aU h,cond_true,aL h,h59,ah,aM h hl,ih (i+1) (az h),bI];cases decide (x.Code=norm code)<;>rfl
theorem c18 {l:List aq} {cs:List Nat} (H:Cd l cs) {code:W} (hc:YE code) (xS:code.length≤1073741824):f18 l code=some (bI (fun x=>decide (x.Code=norm code)) l 0):=by
 refine e18 _ _ ?_;have:f58 l code=some (bI (fun x=>decide (x.Code=norm code)) l 0):=e58 _ _ (h58 H hc xS l 0 rfl);rw [this];rfl
theorem h19 {l:List aq} (hl:l.length≤1073741824) (hs:∀x∈l,x.Code.length≤1073741824) (n:W):∀(xs:List aq) (i:Nat),l.drop i=xs→
  NL l n i=some (bI (fun x=>decide (x.Code=n)) xs i):=by
 intro xs
 induction xs with
 |nil=>
  intro i h;refine VH _ _ _ ?_;rw [aP h];rfl
 |cons x xs ih=>
  intro i h;refine VH _ _ _ ?_;have hx:x∈l:=by rw [←List.take_append_drop i l,h];simp
  rw [aU h,cond_true,aL h,c57 _ _ (hs x hx),ah,aM h hl,ih (i+1) (az h),bI];cases decide (x.Code=n)<;>rfl
theorem c19 {l:List aq} {cs:List Nat} (H:Cd l cs) {code:W} (xS:code.length≤1073741824):f19 l code=some (bI (fun x=>decide (x.Code=norm code)) l 0):=by
 refine e19 _ _ ?_;rw [Zg _ xS,ah];refine h19 (by have:=H.len;rw [H.length];omega) (fun x hx=> ?_) _ l 0 rfl;obtain ⟨c,_,e⟩:=H.mem hx;rw [e];have:=dI c;omega
theorem XR:∀(l:List aq) (cs:List Nat) (w i:Nat),l.map (·.Code)=cs.map e1→
  bI (fun x=>decide (x.Code=e1 w)) l i=match cs.findIdx? (· ==w) with
   |some j=>((i+j:Nat):Int)
   |none=> -1:=by
 intro l
 induction l with
 |nil=>
  intro cs w i h;cases cs with
  |nil=>rfl
  |cons c cs=>simp at h
 |cons x l ih=>
  intro cs w i h;cases cs with
  |nil=>simp at h
  |cons c cs=>
   simp only [List.map_cons,List.cons.injEq] at h;rw [bI,ih cs w (i+1) h.2,List.findIdx?_cons];by_cases e:c=w
   ·subst e;simp [h.1]
   ·have h1:¬(x.Code=e1 w):=by rw [h.1];exact fun e'=>e (Fl e')
    have h2:(c==w)=false:=by simpa using e
    simp only [h1,decide_false,Bool.false_eq_true,if_false,h2];cases cs.findIdx? (· ==w) with
    |none=>rfl
    |some j=>
     show (((i+1)+j:Nat):Int)=((i+(j+1):Nat):Int)
     rw [Nat.add_assoc,Nat.add_comm 1 j]
theorem MX {l:List aq} {cs:List Nat} (H:Cd l cs) (w:Nat):bI (fun x=>decide (x.Code=e1 w)) l 0=tU cs w:=by
 rw [XR l cs w 0 H.eq,tU];cases cs.findIdx? (· ==w)<;>simp
theorem o18 {l:List aq} {cs:List Nat} (H:Cd l cs) {w:Nat} (hw:w<18446744073709551616):f18 l (e1 w)=some (tU cs w):=by
 rw [c18 H (zj hw) (by have:=dI w;omega),oR,MX H]
theorem o19 {l:List aq} {cs:List Nat} (H:Cd l cs) (w:Nat):f19 l (e1 w)=some (tU cs w):=by
 rw [c19 H (by have:=dI w;omega),oR,MX H]
section
variable {l:List aq} {cs:List Nat} (H:Cd l cs) {i j:Nat} (hi:i<cs.length) (hj:j<cs.length)
include H hi hj
theorem qI:f24 l i j=some (sub (cs.getD j 0) (cs.getD i 0)):=by
 refine e24 _ _ _ ?_;have hl:=H.length;rw [bG (by omega),bG (by omega),H.code,H.code,Wv (H.get hj) (H.get hi)];rfl
theorem o25:f25 l i j=some (sub (cs.getD j 0) (cs.getD i 0)):=by
 refine e25 _ _ _ ?_;have hl:=H.length;rw [bG (by omega),bG (by omega),H.code,H.code,o65 (H.get hj) (H.get hi)];rfl
end
abbrev cast (l:List Nat):List Int:=l.map fun n:Nat=>(n:Int)
theorem dw {l:List Nat} {i:Nat} {x:Nat} {xs:List Nat} (h:l.drop i=x::xs):(cast l).drop i=(x:Int)::cast xs:=by
 rw [←List.map_drop,h];rfl
theorem nG {l:List Nat} {i:Nat} (h:l.drop i=[]):(cast l).drop i=[]:=by rw [←List.map_drop,h];rfl
section
variable {l:List aq} {cs:List Nat} (H:Cd l cs)
include H
theorem o66 {m a:Nat} (hm:m<cs.length) (ha:a<cs.length):f66 m a l=some (m !=a&&sub (cs.getD m 0) (cs.getD a 0)):=by
 refine e66 _ _ _ ?_;by_cases h:m=a
 ·subst h;rw [cond_neg (by simp)];simp
 ·rw [cond_pos (by simp;omega),qI H ha hm];simp [h]
theorem h109 {ab:List Nat} (hab:ab.length≤1073741824) (hm:∀m∈ab,m<cs.length) {a:Nat} (ha:a<cs.length):∀(xs:List Nat) (i:Nat),ab.drop i=xs→
  Cl (cast ab) a l (cast ab).length i=some (bI (fun m=>m !=a&&sub (cs.getD m 0) (cs.getD a 0)) xs i):=by
 intro xs
 induction xs with
 |nil=>
  intro i h;refine RK _ _ _ _ _ ?_;rw [aP (nG h)];rfl
 |cons x xs ih=>
  intro i h;refine RK _ _ _ _ _ ?_;have hx:x∈ab:=List.mem_of_getElem? (aW h);rw [aU (dw h),cond_true,aL (dw h),o66 H (hm x hx) ha,ah,aM (dw h) (by simpa using hab),ih (i+1) (az h),bI];cases (x !=a&&sub (cs.getD x 0) (cs.getD a 0))<;>rfl
theorem XQ {α:Type} (p:α→Bool):∀(xs:List α) (i:Nat),decide (bI p xs i≥0)=xs.any p:=by
 clear H;intro xs
 induction xs with
 |nil=>intro i;rfl
 |cons x xs ih=>
  intro i;rw [bI,List.any_cons];cases h:p x with
  |true=>simp
  |false=>rw [←ih (i+1)];simp
theorem o67 {ab:List Nat} (hab:ab.length≤1073741824) (hm:∀m∈ab,m<cs.length) {a:Nat} (ha:a<cs.length):f67 (cast ab) a l=some (ab.any fun m=>m !=a&&sub (cs.getD m 0) (cs.getD a 0)):=by
 refine e67 _ _ _ ?_;have:f109 (cast ab) a l=some (bI (fun m=>m !=a&&sub (cs.getD m 0) (cs.getD a 0)) ab 0):=e109 _ _ _ (h109 H hab hm ha ab 0 rfl);rw [this,ah,XQ];exact H
theorem h27b {ab:List Nat} (hab:ab.length≤1073741824) (hm:∀m∈ab,m<cs.length):∀(xs:List Nat) (i:Nat) (acc:List Nat),ab.drop i=xs→acc.length≤i→
  Ct l (cast ab).length i (cast ab) (cast acc)=some (cast (acc++xs.filter fun k=> !ab.any fun m=>m !=k&&sub (cs.getD m 0) (cs.getD k 0))):=by
 intro xs
 induction xs with
 |nil=>
  intro i acc h hacc;refine VL _ _ _ _ _ ?_;rw [aP (nG h)];simp
 |cons x xs ih=>
  intro i acc h hacc;refine VL _ _ _ _ _ ?_;have hx:x∈ab:=List.mem_of_getElem? (aW h);have hlt:=bL h;rw [aU (dw h),cond_true,jv (dw h),js (dw h),o67 H hab hm (hm x hx),ah,aM (dw h) (by simpa using hab),List.filter_cons];cases hb:ab.any fun m=>m !=x&&sub (cs.getD m 0) (cs.getD x 0) with
  |true=>simp only [Bool.not_true,cond_false];rw [ih (i+1) acc (az h) (by omega)];simp
  |false=>
   simp only [Bool.not_false,cond_true];rw [cg _ (by simp;omega) (by simp) (by omega)];have:=ih (i+1) (acc++[x]) (az h) (by simp;omega);simpa using this
theorem h27a {i:Nat} (hi:i<cs.length):∀(m k:Nat),cs.length-k=m→k≤cs.length→
  z7 i cs.length k l (cast ((List.range k).filter fun k=>k !=i&&sub (cs.getD i 0) (cs.getD k 0))) []=some (cast (Ma cs i)):=by
 intro m
 induction m with
 |zero=>
  intro k hk hle;have:k=cs.length:=by omega
  subst this;refine VK _ _ _ _ _ _ ?_;rw [cond_neg (by simp)]
  have:=h27b H (ab:=qL cs i) (by
   have h1:(qL cs i).length≤cs.length:=by
    unfold qL;refine Nat.le_trans (List.length_filter_le _ _) ?_;simp
   have:=H.len;omega) (fun m hm=>(LB.1 hm).1) (qL cs i) 0 [] rfl (by simp)
  exact this
 |succ m ih=>
  intro k hk hle;refine VK _ _ _ _ _ _ ?_;have hlen:=H.len;have h1:=ih (k+1) (by omega) (by omega);rw [cond_pos (by simp;omega),bh (by omega)];rw [List.range_succ,List.filter_append] at h1;by_cases e:k=i
  ·subst e
   rw [cond_neg (by simp)];rw [show List.filter (fun k'=>k' !=k&&sub (cs.getD k 0) (cs.getD k' 0)) [k]=[] by simp,List.append_nil] at h1;exact h1
  ·rw [cond_pos (by simp;omega),qI H (by omega) hi,ah]
   cases hb:sub (cs.getD i 0) (cs.getD k 0) with
   |true=>
    rw [cond_true,cg _ (by
     simp only [List.length_map];refine Nat.le_trans (List.length_filter_le _ _) ?_
     simp;omega) (by simp) (by omega)]
    rw [show List.filter (fun k'=>k' !=i&&sub (cs.getD i 0) (cs.getD k' 0)) [k]=[k] by rw [List.filter_cons,hb];simp [e],cast,List.map_append] at h1;exact h1
   |false=>
    rw [cond_false];rw [show List.filter (fun k'=>k' !=i&&sub (cs.getD i 0) (cs.getD k' 0)) [k]=[] by rw [List.filter_cons,hb];simp [e],List.append_nil] at h1;exact h1
theorem o27 {i:Nat} (hi:i<cs.length):f27 l i=some (cast (Ma cs i)):=by
 refine e27 _ _ ?_;have:=h27a H hi _ 0 rfl (by omega);rw [H.length];simpa using this
end
def Aq (cs:List Nat) (i k m:Nat):Bool:=m==i||m==k|| !sub (cs.getD m 0) (cs.getD k 0)|| !sub (cs.getD i 0) (cs.getD m 0)
section
variable {l:List aq} {cs:List Nat} (H:Cd l cs)
include H
theorem h28b {i k:Nat} (hi:i<cs.length) (hk:k<cs.length) {o:List Int} (ho:o.length≤1073741824) {r:R28.T}:∀(n m:Nat) (dir:Bool),cs.length-m=n→m≤cs.length→
  xx l i (k+1:Nat) (if (dir&&(List.range' m (cs.length-m)).all (Aq cs i k))=true then o++[(k:Int)] else o)=some r→z8 l i k dir m o=some r:=by
 have hlen:=H.len;have hl:=H.length;intro n
 induction n with
 |zero=>
  intro m dir hm hle h;refine VN _ _ _ _ _ _ ?_;have:m=cs.length:=by omega
  subst this;rw [cond_neg (by simp;omega),bh (by omega)];simp only [Nat.sub_self,List.range'_zero,List.all_nil,Bool.and_true] at h;cases dir with
  |true=>rw [cond_true,cg _ ho (by simp) (by omega)];simpa using h
  |false=>simpa using h
 |succ n ih=>
  intro m dir hm hle h;refine VN _ _ _ _ _ _ ?_;have hr:List.range' m (cs.length-m)=m::List.range' (m+1) (cs.length-(m+1)):=by
   rw [show cs.length-m=(cs.length-(m+1))+1 by omega,List.range'_succ]
  rw [hr,List.all_cons] at h;have hm':m<cs.length:=by omega
  rw [cond_pos (by simp;omega),bh (by omega)];cases dir with
  |false=>rw [cond_false];exact ih (m+1) false (by omega) (by omega) (by simpa using h)
  |true=>
   rw [cond_true];by_cases e1:m=i
   ·rw [cond_pos (by simp;omega)]
    refine ih (m+1) true (by omega) (by omega) ?_;have:Aq cs i k m=true:=by simp [Aq,e1]
    rw [this,Bool.true_and] at h;exact h
   ·rw [cond_neg (by simp;omega)]
    by_cases e2:m=k
    ·rw [cond_pos (by simp;omega)]
     refine ih (m+1) true (by omega) (by omega) ?_;have:Aq cs i k m=true:=by simp [Aq,e2]
     rw [this,Bool.true_and] at h;exact h
    ·rw [cond_neg (by simp;omega),o25 H hk hm',ah]
     cases h1:sub (cs.getD m 0) (cs.getD k 0) with
     |false=>
      rw [Bool.not_false,cond_true];refine ih (m+1) true (by omega) (by omega) ?_;have:Aq cs i k m=true:=by simp only [Aq,h1];simp
      rw [this,Bool.true_and] at h;exact h
     |true=>
      rw [Bool.not_true,cond_false,o25 H hm' hi,ah];refine ih (m+1) _ (by omega) (by omega) ?_;have:Aq cs i k m= !sub (cs.getD i 0) (cs.getD m 0):=by
       simp only [Aq,h1];simp [e1,e2]
      rw [this,Bool.true_and] at h;exact h
def C7 (cs:List Nat) (i:Nat) (k:Nat):Bool:=k !=i&&sub (cs.getD i 0) (cs.getD k 0)&&(List.range cs.length).all (Aq cs i k)
theorem h28a {i:Nat} (hi:i<cs.length):∀(n k:Nat) (acc:List Nat),cs.length-k=n→k≤cs.length→acc.length≤k→
  xx l i k (cast acc)=some (cast (acc++(List.range' k (cs.length-k)).filter (C7 cs i))):=by
 have hlen:=H.len;have hl:=H.length;intro n
 induction n with
 |zero=>
  intro k acc hk hle hacc;refine VM _ _ _ _ ?_;rw [cond_neg (by simp;omega),hk];simp
 |succ n ih=>
  intro k acc hk hle hacc;refine VM _ _ _ _ ?_;have hr:List.range' k (cs.length-k)=k::List.range' (k+1) (cs.length-(k+1)):=by
   rw [show cs.length-k=(cs.length-(k+1))+1 by omega,List.range'_succ]
  rw [cond_pos (by simp;omega),bh (by omega),hr,List.filter_cons];by_cases e:k=i
  ·rw [cond_pos (by simp;omega),ih (k+1) acc (by omega) (by omega) (by omega)]
   have:C7 cs i k=false:=by simp [C7,e]
   rw [this];rfl
  ·rw [cond_neg (by simp;omega),o25 H (by omega) hi,ah]
   cases h1:sub (cs.getD i 0) (cs.getD k 0) with
   |false=>
    rw [Bool.not_false,cond_true,ih (k+1) acc (by omega) (by omega) (by omega)];have:C7 cs i k=false:=by simp only [C7,h1];simp
    rw [this];rfl
   |true=>
    rw [Bool.not_true,cond_false];refine h28b H hi (by omega) (by simp;omega) _ 0 true rfl (by omega) ?_;have hd:C7 cs i k=(List.range cs.length).all (Aq cs i k):=by simp only [C7,h1];simp [e]
    rw [Nat.sub_zero,←List.range_eq_range',Bool.true_and,←hd];cases hdk:C7 cs i k with
    |true=>
     have:=ih (k+1) (acc++[k]) (by omega) (by omega) (by simp;omega);simpa using this
    |false=>
     have:=ih (k+1) acc (by omega) (by omega) (by omega);simpa using this
omit H in
theorem On (i:Nat):(List.range cs.length).filter (C7 cs i)=Ma cs i:=by
 unfold Ma qL;rw [List.filter_filter];apply List.filter_congr;intro k hk;rw [Bool.eq_iff_iff];simp only [C7,Bool.and_eq_true,List.all_eq_true,List.mem_range,Bool.not_eq_true',List.any_eq_false,List.mem_filter,bne_iff_ne,ne_eq,Aq,Bool.or_eq_true,beq_iff_eq];constructor
 ·rintro ⟨⟨h1,h2⟩,h3⟩
  refine ⟨?_,h1,h2⟩
  rintro m ⟨hm,Rm,hm2⟩ ⟨hm3,hm4⟩
  rcases h3 m hm with ((h|h)|h)|h
  ·exact Rm h
  ·exact hm3 h
  ·rw [hm4] at h;cases h
  ·rw [hm2] at h;cases h
 ·rintro ⟨h3,h1,h2⟩
  refine ⟨⟨h1,h2⟩,?_⟩;intro m hm;by_cases e1:m=i
  ·exact .inl (.inl (.inl e1))
  by_cases e2:m=k
  ·exact .inl (.inl (.inr e2))
  cases h4:sub (cs.getD m 0) (cs.getD k 0) with
  |false=>exact .inl (.inr rfl)
  |true=>
   cases h5:sub (cs.getD i 0) (cs.getD m 0) with
   |false=>exact .inr rfl
   |true=>exact absurd ⟨e2,h4⟩ (h3 m ⟨hm,e1,h5⟩)
theorem o28 {i:Nat} (hi:i<cs.length):f28 l i=some (cast (Ma cs i)):=by
 refine e28 _ _ ?_;have:=h28a H hi _ 0 [] rfl (by omega) (by simp);rw [Nat.sub_zero,←List.range_eq_range',On,List.nil_append] at this;simpa using this
end
end Go.Proofs.YtmidjldjkbljjaaGreatDoor.cl
