/- The Closure laws, plain. -/
import Derived.Test.YthphfjcnkinkpaaGreatDoorAmI
import Derived.Test.YthphfjcnkinkpaaGreatDoorClF
import Derived.Test.YthphfjcnkinkpaaGreatDoorClO
set_option linter.all false
open Go.IntKind (wrap)
open BitVec (ofInt)
namespace Go.Proofs.YthphfjcnkinkpaaGreatDoor.cl
def sub (a b:Nat):Bool:=a&&&b==a
def Yt {a b:Nat}:sub a b=true↔a&&&b=a:=by simp[sub]
theorem j8 {a b:Nat}:sub a b=true↔∀i,a.testBit i=true->b.testBit i=true:=by
 rw[Yt];constructor
 .intro h i hi;have:=aU (λx=>x.testBit i) h;simp only[lS,hi,iF] at this;exact this
 .intro h;apply uT;intro i;rw[lS];cases hi:a.testBit i with
  |false=>rfl
  |true=>rw[h i hi];rfl
def yO (a:Nat):sub a a=true:=j8.2 λ_ h=>h
def yP {a b c:Nat} (q:sub a b=true) (z:sub b c=true):sub a c=true:=j8.2 λi h=>j8.1 z i (j8.1 q i h)
def sP {a b:Nat} (q:sub a b=true) (z:sub b a=true):a=b:=by apply uT;intro i;rw[iZ];exact⟨j8.1 q i,j8.1 z i⟩
def Fo (a b:Nat):sub (a&&&b) a=true:=j8.2 λi h=>by rw[lS,aV] at h;exact h.1
def My (a b:Nat):sub (a&&&b) b=true:=j8.2 λi h=>by rw[lS,aV] at h;exact h.2
def Ys {a b c:Nat} (q:sub a b=true) (z:sub a c=true):sub a (b&&&c)=true:=j8.2 λi h=>by rw[lS,j8.1 q i h,j8.1 z i h];rfl
def Hg (cs:List Nat) (w:Nat):Int:=match cs.findIdx? (· ==w) with
 |some i=>(i:Int)
 |none=> -1
def Xp {cs:List Nat} {w:Nat} (h:w∉cs):Hg cs w= -1:=by
 have:cs.findIdx? (· ==w)=none:=by rw[D5];intro x q;simp;intro e;subst e;exact h q
 simp[Hg,this]
theorem Oz {cs:List Nat} {w:Nat} (h:w∈cs):∃i,i<cs.length/\cs.getD i 0=w/\Hg cs w=(i:Int):=by cases e:cs.findIdx? (· ==w) with
 |none=>rw[D5] at e;have:=e w h;simp at this
 |some i=>
  rw[y9] at e;obtain⟨hi,q,_⟩:=e;refine⟨i,hi,?_,?_⟩
  .rw[bA,aM hi];simpa using q
  .have z:cs.findIdx? (· ==w)=some i:=by
    rw[y9];exact⟨hi,q,by assumption⟩
   simp[Hg,z]
theorem lI {cs:List Nat} {i:Nat} (h:i<cs.length):cs.getD i 0∈cs:=by rw[bA,aM h];exact bB h
theorem getD_inj {cs:List Nat} (nd:cs.Nodup) {i j:Nat} (hi:i<cs.length) (hj:j<cs.length) (h:cs.getD i 0=cs.getD j 0):i=j:=by rw[bA,bA,aM hi,aM hj] at h;exact(rU nd).1 h
structure aav (cs:List Nat):Prop where
 nd:cs.Nodup
 nz:∀c∈cs,c≠0
 cl:∀a∈cs,∀b∈cs,a&&&b≠0->a&&&b∈cs
 top:∀c∈cs,sub c (cs.getD 0 0)=true
 pos:0<cs.length
 AY:∀i j,i<cs.length->j<cs.length->sub (cs.getD j 0) (cs.getD i 0)=true->i<=j
def UH (cs:List Nat) (i:Nat):List Nat:=(List.range cs.length).filter λk=>k !=i&&sub (cs.getD i 0) (cs.getD k 0)
def ad8 (cs:List Nat) (i:Nat):List Nat:=(UH cs i).filter λk=> !(UH cs i).any λm=>m !=k&&sub (cs.getD m 0) (cs.getD k 0)
end Go.Proofs.YthphfjcnkinkpaaGreatDoor.cl
namespace Go.Proofs.YthphfjcnkinkpaaGreatDoor.cl
open Go Go.AM
abbrev W:=List Int
def wd (b:W) (i:Nat):Int:=b.getD i 0
def nl (b:W):Nat->Nat
 |0=>0
 |n+1=>if wd b n=0 then nl b n else n+1
def norm (b:W):W:=b.take (nl b b.length)
def G2 (x y:Int):Int:=wrap .u64 ((ofInt (IntKind.bits .u64) x&&&ofInt (IntKind.bits .u64) y).toNat:Int)
def or64 (x y:Int):Int:=wrap .u64 ((ofInt (IntKind.bits .u64) x|||ofInt (IntKind.bits .u64) y).toNat:Int)
def yM (x y:Int):Int:=wrap .u64 ((ofInt (IntKind.bits .u64) x&&& ~~~ofInt (IntKind.bits .u64) y).toNat:Int)
theorem adH (b:W):∀n,nl b n<=n
 |0=>aZ _
 |n+1=>by unfold nl;split;exact Nat.le_succ_of_le (adH b n);exact aZ _
theorem Ci {b:W} {i:Nat} (h:i<b.length):b[i]=wd b i:=by simp[wd,bA,aM h]
theorem Cj {b:W} {i:Nat} (h:b.length<=i):wd b i=0:=by simp[wd,bA,gH h]
def c106 (b:W) (i:Nat):f106 b i=some (wd b i):=by
 refine e106 ?_;by_cases h:i<b.length
 .rw[cond_pos aI,bU h,Ci h]
 .rw[cond_neg aI,Cj af]
def c107 (b:W) (i:Nat):f107 b i=some (wd b i):=by
 refine e107 ?_;by_cases h:i<b.length
 .rw[cond_pos aI,bU h,Ci h]
 .rw[cond_neg aI,Cj af]
def h68 (b:W) (B:b.length<=1073741824):∀(n:Nat),n<=b.length->YD b n=some (b.take (nl b n)):=by intro n;induction n with
 |zero=>intro q;refine k68_2 ?_;rw[cond_neg ai,bT ai];simp[nl]
 |succ n z=>
  intro q;refine k68_2 ?_;rw[cond_pos ai,oF af,bU af,Ci];by_cases h:wd b n=0
  .rw[cond_pos (by simpa using h),z af];simp[nl,h]
  .rw[cond_neg (by simpa using h),bT aI]
   have:nl b (n+1)=n+1:=by simp[nl,h]
   simp[this]
def c68 (b:W) (q:b.length<=1073741824):f68 b=some (norm b):=e68 (h68 b q _ (aZ _))
def h60 (b:W) (B:b.length<=1073741824):∀(n:Nat),n<=b.length->YA b n=some (b.take (nl b n)):=by intro n;induction n with
 |zero=>intro q;refine k60_2 ?_;rw[cond_neg ai,bT ai,bT ai];simp[nl]
 |succ n z=>
  intro q;refine k60_2 ?_;rw[cond_pos ai,oF af,bU af,Ci];by_cases h:wd b n=0
  .rw[cond_pos (by simpa using h),z af];simp[nl,h]
  .rw[cond_neg (by simpa using h),bT aI,bT aI]
   have:nl b (n+1)=n+1:=by simp[nl,h]
   simp[this]
def c60 (b:W) (q:b.length<=1073741824):f60 b=some (norm b):=e60 (h60 b q _ (aZ _))
def FI (n:Nat) (f:Nat->Int):W:=(List.range n).map f
def Uh (n:Nat) (f:Nat->Int):FI (n+1) f=FI n f++[f n]:=by simp[FI,kE]
def tC (n:Nat) (f:Nat->Int):(FI n f).length=n:=by simp[FI]
def aew (n:Nat) (f:Nat->Int) (i:Nat):wd (FI n f) i=if i<n then f i else 0:=by by_cases h:i<n<;>simp[wd,FI,bA,dK,p9,h]
def h61 (a b:W) (z:a.length<=1073741824):∀(n i:Nat),a.length-i=n->i<=a.length->
  YB a b i (FI i λj=>G2 (wd a j) (wd b j))=some (norm (FI a.length λj=>G2 (wd a j) (wd b j))):=by
 intro n;induction n with
 |zero=>
  intro i hi q
  have:i=a.length:=af
  subst this;refine k61_3 ?_;rw[cond_neg ai,c60 _ (by rw[tC];exact z)];rfl
 |succ n B=>intro i hi q;refine k61_3 ?_;rw[cond_pos aI,bU af,c106,aj,cC _ (by rw[tC];omega) ai af,bM af,Ci];have:=B (i+1) af af;rw[Uh] at this;exact this
theorem c61 (a b:W) (q:a.length<=1073741824):f61 a b=some (norm (FI a.length λj=>G2 (wd a j) (wd b j))):=
 e61 (h61 a b q _ 0 rfl (cZ _))
def h108 (a b:W) (z:a.length<=1073741824):∀(n i:Nat),a.length-i=n->i<=a.length->
  P8 a b i (FI i λj=>yM (wd a j) (wd b j))=some (norm (FI a.length λj=>yM (wd a j) (wd b j))):=by
 intro n;induction n with
 |zero=>
  intro i hi q
  have:i=a.length:=af
  subst this;refine ab3 ?_;rw[cond_neg ai,c60 _ (by rw[tC];exact z)];rfl
 |succ n B=>intro i hi q;refine ab3 ?_;rw[cond_pos aI,bU af,c106,aj,cC _ (by rw[tC];omega) ai af,bM af,Ci];have:=B (i+1) af af;rw[Uh] at this;exact this
def c108 (a b:W) (q:a.length<=1073741824):f108 a b=some (norm (FI a.length λj=>yM (wd a j) (wd b j))):=
 e108 (h108 a b q _ 0 rfl (cZ _))
def minI (x y:Nat):(if(y:Int)<(x:Int) then(y:Int) else(x:Int))=((min x y:Nat):Int):=by split<;>omega
def H7 (n i:Nat) (f:Nat->Int):W:=FI n λj=>if j<i then f j else 0
def Zq (n:Nat) (f:Nat->Int):H7 n 0 f=List.replicate n 0:=by apply nK<;>simp[H7,FI]
def Zp (n:Nat) (f:Nat->Int):H7 n n f=FI n f:=by
 apply nK
 .simp[H7,FI]
 .intro j q z;simp[H7,FI] at q⊢;intro h;omega
def Hh (n i:Nat) (f:Nat->Int):(H7 n i f).length=n:=by simp[H7,FI]
def abw (n i:Nat) (f:Nat->Int) (h:i<n):(H7 n i f).set i (f i)=H7 n (i+1) f:=by
 apply nK
 .simp[H7,FI]
 .intro j z B;simp only[H7,FI,List.getElem_set,kF,D6];by_cases e:i=j
  .subst e;simp
  .simp only[e,gL];by_cases q:j<i
   .simp[q,Nat.lt_succ_of_lt q]
   .have:¬j<i+1:=af
    simp[q,this]
def h29 (a b:W) (m:Nat) (z:m<=1073741824) (D:m<=a.length) (F:m<=b.length):∀(n i:Nat),m-i=n->i<=m->
  Uc a b m i (H7 m i λj=>G2 (wd a j) (wd b j))=some (norm (FI m λj=>G2 (wd a j) (wd b j))):=by
 intro n;induction n with
 |zero=>
  intro i hi q
  have:i=m:=af
  subst this;refine k29_3 ?_;rw[cond_neg ai,Zp,c68 _ (by rw[tC];exact z)];rfl
 |succ n B=>intro i hi q;refine k29_3 ?_;rw[cond_pos aI,bU af,bU af,Bv (by rw[Hh];omega),aT,oL (by rw[Hh];omega),bM af,Ci,Ci];have:=B (i+1) af af;rw[<-abw m i _ af] at this;exact this
def c29 (a b:W) (q:a.length<=1073741824) (z:b.length<=1073741824):f29 a b=some (norm (FI (min a.length b.length) λj=>G2 (wd a j) (wd b j))):=by refine e29 ?_;simp only[minI,aT,kD];rw[bT af];have:=h29 a b (min a.length b.length) af af af _ 0 rfl (cZ _);rw[Zq] at this;exact this
def Gx (a b:W):Bool:=(List.range a.length).all λj=>yM (wd a j) (wd b j)==0
def ud (a b:W) (i:Nat):Bool:=(List.range' i (a.length-i)).all λj=>yM (wd a j) (wd b j)==0
def P5 (a b:W) (i:Nat) (h:a.length<=i):ud a b i=true:=by
 have:a.length-i=0:=af
 simp[ud,this]
def Mz (a b:W) (i:Nat) (h:i<a.length):ud a b i=(yM (wd a i) (wd b i)==0&&ud a b (i+1)):=by
 have:a.length-i=(a.length-(i+1))+1:=af
 rw[ud,this,ri,lZ];rfl
def h63 (a b:W) (B:a.length<=1073741824):∀(n i:Nat),a.length-i=n->i<=a.length->YC b a a.length i=some (ud a b i):=by intro n;induction n with
 |zero=>intro i hi q;refine k63_2 ?_;rw[cond_neg aI,P5 a b i af]
 |succ n z=>
  intro i hi q;refine k63_2 ?_;rw[cond_pos aI,bU af,c107,aj,Mz a b i af,Ci];by_cases h:yM (wd a i) (wd b i)=0
  .rw[cond_neg (by simpa[yM] using h),bM af,z (i+1) af af];simp[h]
  .rw[cond_pos (by simpa[yM] using h)];simp only[show(yM (wd a i) (wd b i)==0)=false by simpa using h,p5]
theorem c63 (a b:W) (q:a.length<=1073741824):f63 a b=some (Gx a b):=by refine e63 ?_;rw[show Gx a b=ud a b 0 by simp[Gx,ud,zf]];exact h63 a b q _ 0 rfl (cZ _)
def Ya (b:W):∀n,nl b n=0↔∀j,j<n->wd b j=0
 |0=>by simp[nl]
 |n+1=>by
  unfold nl;split
  .rename_i h;rw[Ya b n];constructor
   .intro q j hj;by_cases e:j=n
    .subst e;exact h
    .exact q j af
   .intro q j hj;exact q j af
  .rename_i h;constructor
   .intro q;omega
   .intro q;exact absurd (q n af) h
def adK (b:W):(norm b).length=0↔∀j,j<b.length->wd b j=0:=by rw[norm,e7,wQ (adH b _),Ya]
theorem c65 (a b:W) (q:a.length<=1073741824):f65 a b=some (Gx a b):=by
 refine e65 ?_;rw[c108 a b q,aj];congr 1;rw[iZ];have e:(((norm (FI a.length λj=>yM (wd a j) (wd b j))).length:Int)==0)=((norm (FI a.length λj=>yM (wd a j) (wd b j))).length==0):=by rw[iZ];simp
 rw[e];simp only[ja,adK,tC,Gx,cI,gU];constructor
 .intro h j hj;have:=h j hj;rwa[aew,aB hj] at this
 .intro h j hj;rw[aew,aB hj];exact h j hj
def c102 (a b:W) (q:a.length<=1073741824) (z:b.length<=1073741824):f102 a b=some (Gx a b&&Gx b a):=by refine e102 ?_;rw[c65 a b q,c65 b a z];cases Gx a b<;>rfl
def h57 (a b:W) (z:a.length<=1073741824) (B:a.length=b.length):∀(xs:W) (i:Nat),a.drop i=xs->Yz a b i=some (decide (a.drop i=b.drop i)):=by intro xs;induction xs with
 |nil=>intro i h;refine k57_4 ?_;have:=kJ h;rw[aW h,aA,h,rV af];simp
 |cons x xs F=>
  intro i h;refine k57_4 ?_;have D:=dN h;rw[aP h,ak,aJ h,bU af,aN h z,h,iH (l:=b) (i:=i) af];have e:=F (i+1) (aH h);rw[aH h] at e;by_cases q:x=b[i]
  .rw[cond_neg (by simpa using q),e];simp only[q,cV,eH]
  .rw[cond_pos (by simpa using q)];simp only[cV,q,false_and,zg]
def c57 (a b:W) (q:a.length<=1073741824):f57 a b=some (decide (a=b)):=by
 refine e57 ?_;by_cases h:a.length=b.length
 .rw[cond_neg aI];exact h57 a b q h _ 0 rfl
 .rw[cond_pos aI]
  have:a≠b:=λe=>h (by rw[e])
  simp[this]
end Go.Proofs.YthphfjcnkinkpaaGreatDoor.cl
namespace Go.Proofs.YthphfjcnkinkpaaGreatDoor.cl
open Go Go.AM
def e1 (w:Nat):W:=if w=0 then[] else[(w:Int)]
theorem mQ (w:Nat):(e1 w).length<=1:=by unfold e1;grind
theorem NN (w:Nat):wd (e1 w) 0=(w:Int):=by grind[e1,wd]
def WY (w j:Nat):wd (e1 w) (j+1)=0:=Cj (by have:=mQ w;omega)
theorem Vb {w v:Nat} (h:e1 w=e1 v):w=v:=by grind[NN]
theorem FU {w v:Nat} (hw:w<18446744073709551616) (hv:v<18446744073709551616):G2 (w:Int) (v:Int)=((w&&&v:Nat):Int):=by have h:w&&&v<=w:=rW;show wrap _ (((BitVec.ofNat 64 w&&&BitVec.ofNat _ v).toNat))=_;grind[As]
def adS {w v:Nat} (hw:w<18446744073709551616) (hv:v<18446744073709551616):w|||v<18446744073709551616:=by have:=Nat.or_lt_two_pow (n:=64) (x:=w) (y:=v) (by simpa using hw) (by simpa using hv);simpa using this
def adR {w v:Nat} (hw:w<18446744073709551616) (hv:v<18446744073709551616):or64 (w:Int) (v:Int)=((w|||v:Nat):Int):=by have h:=adS hw hv;show wrap _ (((BitVec.ofNat 64 w|||BitVec.ofNat _ v).toNat))=_;grind[As]
theorem yN {w v:Nat} (hw:w<18446744073709551616) (hv:v<18446744073709551616):yM (w:Int) (v:Int)=0↔sub w v=true:=by
 show wrap _ (((BitVec.ofNat 64 w&&& ~~~BitVec.ofNat _ v).toNat))=0↔_;rw[As af af];have e:((((BitVec.ofNat 64 w&&& ~~~BitVec.ofNat _ v).toNat):Int)=0)↔(BitVec.ofNat 64 w&&& ~~~BitVec.ofNat _ v).toNat=0:=af;rw[e,j8];constructor
 .intro h i hi;have q:i<64:=by
   apply fh;intro z
   have:w.testBit i=false:=zh (fH (by omega:w<2^ 64) (uU af af))
   rw[this] at hi;cases hi
  have:=aU (λx=>x.testBit i) h;grind
 .intro h;apply uT;simp only[BitVec.testBit_toNat,BitVec.getLsbD_and,BitVec.getLsbD_not,BitVec.getLsbD_ofNat];simp_all
def ZN (f:Nat->Int):norm (FI 1 f)=if f 0=0 then[] else[f 0]:=by
 have:FI 1 f=[f 0]:=by simp[FI,kE]
 rw[this];unfold norm;simp only[dV,nl];have hw:wd [f 0] 0=f 0:=rfl;rw[hw];split<;>simp
theorem Tw {f:Nat->Int} {n w:Nat} (B:n<=1) (z:n=1->f 0=(w:Int)) (q:n=0->w=0):norm (FI n f)=e1 w:=by cases n with
 |zero=>rw[q rfl];rfl
 |succ n=>
  have:n=0:=af
  subst this;rw[ZN];simp_all[e1]
theorem Es {w:Nat} (h:(e1 w).length=0):w=0:=by simp_all[e1]
section
variable {w v:Nat} (hw:w<18446744073709551616) (hv:v<18446744073709551616)
include hw hv
theorem o61:f61 (e1 w) (e1 v)=some (e1 (w&&&v)):=by grind[mQ,c61,Tw,NN,FU,Es]
theorem ZP:f29 (e1 w) (e1 v)=some (e1 (w&&&v)):=by
 have B:=mQ w;have z:=mQ v;rw[c29 _ _ af af];congr 1;refine Tw af (λ_=> ?_) (λh=> ?_)
 .rw[NN,NN,FU hw hv]
 .by_cases q:(e1 w).length=0
  .rw[Es q];simp
  .rw[Es (show(e1 v).length=0 by omega)];simp
theorem Yu:Gx (e1 w) (e1 v)=sub w v:=by simp[Gx];grind[e1,j8,NN,yN]
theorem o63:f63 (e1 w) (e1 v)=some (sub w v):=by grind[c63,mQ,Yu]
theorem o65:f65 (e1 w) (e1 v)=some (sub w v):=by grind[c65,mQ,Yu]
theorem o57:f57 (e1 w) (e1 v)=some (decide (w=v)):=by rw[c57 _ _ (by have:=mQ w;omega)];congr 1;rw[uV];exact⟨Vb,λh=>by rw[h]⟩
end
def Tt {a b:W} (h:∀j,wd a j=wd b j):∀n,nl a n=nl b n
 |0=>rfl
 |n+1=>by unfold nl;rw[h n,Tt h n]
def adG (a:W):∀n,a.length<=n->nl a n=nl a a.length:=by intro n z;induction n with
 |zero=>simp_all
 |succ n q=>
  by_cases h:a.length=n+1
  .rw[h]
  .rw[<-q af];show(if wd a n=0 then nl a n else n+1)=_;rw[aB (Cj af)]
def Tv {a b:W} (h:∀j,wd a j=wd b j):norm a=norm b:=by
 have q:nl a a.length=nl b b.length:=by rw[<-adG a (max a.length _) af,<-adG b (max _ b.length) af,Tt h]
 unfold norm;apply nK
 .grind[adH]
 simp_all[Ci]
theorem nl_pos {a:W}:∀n j,nl a n<=j->j<n->wd a j=0:=by intro n;induction n with
 |zero=>intro j _ h;omega
 |succ n z=>
  intro j q B;unfold nl at q;split at q
  .rename_i h;by_cases e:j=n
   .subst e;exact h
   .exact z j q af
  .omega
def YS (a:W) (j:Nat):wd (norm a) j=wd a j:=by
 unfold norm;by_cases h:j<nl a a.length
 .rw[wd,bA,List.getElem?_take_of_lt h,wd,bA]
 grind[Cj,nl_pos]
theorem IK (w:Nat):norm (e1 w)=e1 w:=by
 unfold e1;split
 .rfl
 .have:wd [(w)] 0=(w):=rfl
  simp_all[norm,nl]
def Wds (b:W):Prop:=∀x∈b,0<=x/\x<18446744073709551616
def Rp {b:W} (h:Wds b) (j:Nat):∃w:Nat,wd b j=(w:Int)/\w<18446744073709551616:=by
 by_cases hj:j<b.length
 .have:=h _ (bB hj);rw[Ci] at this;exact⟨(wd b j).toNat,by omega,af⟩
 .exact⟨0,by rw[Cj af];rfl,af⟩
def Z8 {a b:W} (B:Wds a) (I:Wds b):(Gx a b&&Gx b a)=decide (norm a=norm b):=by
 rw[iZ];simp[aV,p6,Gx,cI,gU];constructor
 .rintro⟨F,G⟩;apply Tv;intro j;obtain⟨x,z,q⟩:=Rp B j;obtain⟨y,D,K⟩:=Rp I j;have L:sub x y=true:=by
   by_cases hj:j<a.length
   .have:=F j hj;simp_all[yN]
   .rw[Cj af] at z
    have:x=0:=af
    grind[j8]
  have N:sub y x=true:=by
   by_cases hj:j<b.length
   .have:=G j hj;simp_all[yN]
   .rw[Cj af] at D
    have:y=0:=af
    grind[j8]
  rw[z,D,sP L N]
 .intro h;have hw:∀j,wd a j=wd b j:=λj=>by rw[<-YS a,h,YS]
  constructor
  .intro j _;obtain⟨x,z,q⟩:=Rp B j;simp_all[yN,yO]
  .intro j _;obtain⟨x,z,q⟩:=Rp B j;simp_all[yN,yO]
def aex {w:Nat} (hw:w<18446744073709551616):Wds (e1 w):=by intro x q;unfold e1 at q;grind
structure Cd (l:List fO) (cs:List Nat):Prop where
 eq:l.map (·.Code)=cs.map e1
 lt:∀c∈cs,c<18446744073709551616
 len:cs.length<=1048576
def Cd.length {l:List fO} {cs:List Nat} (h:Cd l cs):l.length=cs.length:=by have:=aU List.length h.eq;simp_all
def Cd.code {l:List fO} {cs:List Nat} (h:Cd l cs) {i:Nat} (hi:i<l.length):l[i].Code=e1 (cs.getD i 0):=by
 have q:i<cs.length:=by rw[<-h.length];exact hi
 have:=aU (λm=>m[i]?) h.eq;simp only[dK,aM hi,aM q,ff,bq] at this;rw[this,bA,aM q];rfl
def Cd.get {l:List fO} {cs:List Nat} (h:Cd l cs) {i:Nat} (hi:i<cs.length):cs.getD i 0<18446744073709551616:=h.lt _ (lI hi)
def Cd.mem {l:List fO} {cs:List Nat} (h:Cd l cs) {x:fO} (q:x∈l):∃c,c∈cs/\x.Code=e1 c:=by
 have:x.Code∈l.map _:=nP q
 rw[h.eq] at this;grind
def h19 {l:List fO} (q:l.length<=1073741824) (z:∀x∈l,x.Code.length<=1073741824) (n:W):∀(xs:List fO) (i:Nat),l.drop i=xs->
  Yw l n i=some (jf (λx=>decide (x.Code=n)) xs i):=by
 intro xs;induction xs with
 |nil=>intro i h;refine k19_3 ?_;rw[aW h];rfl
 |cons x xs D=>
  intro i h;refine k19_3 ?_;have B:x∈l:=by rw[<-lT i l,h];simp
  rw[aP h,aJ h,c57 _ _ (z x B),aN h q,D _ (aH h),jf];grind
theorem c19 {l:List fO} {cs:List Nat} (H:Cd l cs) {code:W} (q:code.length<=1073741824):f19 l code=some (jf (λx=>decide (x.Code=norm code)) l 0):=by refine e19 ?_;rw[c60 _ q,aj];refine h19 (by have:=H.len;rw[H.length];omega) (λx z=> ?_) _ l 0 rfl;obtain⟨c,_,e⟩:=H.mem z;grind[mQ]
def ix_fnd:∀(l:List fO) (cs:List Nat) (w i:Nat),l.map (·.Code)=cs.map e1->
  jf (λx=>decide (x.Code=e1 w)) l i=match cs.findIdx? (· ==w) with
   |some j=>((i+j:Nat):Int)
   |none=> -1:=by
 intro l;induction l with
 |nil=>intro cs w i h;cases cs with
  |nil=>rfl
  |cons c cs=>simp at h
 |cons x l D=>intro cs w i h;cases cs with
  |nil=>simp at h
  |cons c cs=>
   simp only[bS,cV] at h;rw[jf,D cs w (i+1) h.2,uO];by_cases e:c=w
   .subst e;simp[h.1]
   .have z:¬(x.Code=e1 w):=by rw[h.1];exact λq=>e (Vb q)
    have B:(c==w)=false:=by simpa using e
    simp only[z,zg,eG,gL,B];cases cs.findIdx? (· ==w) with
    |none=>rfl
    |some j=>
     show(((i+1)+j:Nat):Int)=((i+(j+1):Nat):Int)
     rw[nj,kN 1 j]
theorem ix_fnd0 {l:List fO} {cs:List Nat} (H:Cd l cs) (w:Nat):jf (λx=>decide (x.Code=e1 w)) l 0=Hg cs w:=by rw[ix_fnd l cs w 0 H.eq,Hg];cases cs.findIdx? (· ==w)<;>simp
def o19 {l:List fO} {cs:List Nat} (H:Cd l cs) (w:Nat):f19 l (e1 w)=some (Hg cs w):=by grind[c19,mQ,IK,ix_fnd0]
section
variable {l:List fO} {cs:List Nat} (H:Cd l cs) {i j:Nat} (hi:i<cs.length) (hj:j<cs.length)
include H hi hj
theorem o25:f25 l i j=some (sub (cs.getD j 0) (cs.getD i 0)):=by refine e25 ?_;have q:=H.length;rw[bU af,bU af,H.code,H.code,o65 (H.get hj) (H.get hi)];rfl
end
abbrev cast (l:List Nat):List Int:=l.map λn:Nat=>(n:Int)
def F1 {l:List Nat} {i:Nat} {x:Nat} {xs:List Nat} (h:l.drop i=x::xs):(cast l).drop i=(x:Int)::cast xs:=by rw[<-p7,h];rfl
def aaX {l:List Nat} {i:Nat} (h:l.drop i=[]):(cast l).drop i=[]:=by rw[<-p7,h];rfl
def Ia (cs:List Nat) (i k m:Nat):Bool:=m==i||m==k|| !sub (cs.getD m 0) (cs.getD k 0)|| !sub (cs.getD i 0) (cs.getD m 0)
section
variable {l:List fO} {cs:List Nat} (H:Cd l cs)
include H
theorem h28b {i k:Nat} (hi:i<cs.length) (K:k<cs.length) {o:List Int} (N:o.length<=1073741824) {r:R28.T}:∀(n m:Nat) (q:Bool),cs.length-m=n->m<=cs.length->
  HN l i (k+1:Nat) (if(q&&(List.range' m (cs.length-m)).all (Ia cs i k))=true then o++[(k:Int)] else o)=some r->HO l i k q m o=some r:=by
 have I:=H.len;have P:=H.length;intro n;induction n with
 |zero=>
  intro m q L D h;refine k28_8 ?_
  have:m=cs.length:=af
  subst this;rw[cond_neg aI,bM af];simp only[kC,List.range'_zero,List.all_nil,y5] at h;cases q with
  |true=>rw[ak,cC _ N ai af];simpa using h
  |false=>simpa using h
 |succ n B=>
  intro m q L D h;refine k28_8 ?_;have O:List.range' m (cs.length-m)=m::List.range' (m+1) (cs.length-(m+1)):=by rw[show cs.length-m=(cs.length-(m+1))+1 by omega,ri]
  rw[O,lZ] at h;have z:m<cs.length:=by omega
  rw[cond_pos aI,bM af];cases q with
  |false=>rw[aA];exact B (m+1) false af af (by simpa using h)
  |true=>
   rw[ak];by_cases e1:m=i
   .rw[cond_pos aI];refine B (m+1) true af af ?_
    have:Ia cs i k m=true:=by simp[Ia,e1]
    rw[this,iF] at h;exact h
   .rw[cond_neg aI];by_cases F:m=k
    .rw[cond_pos aI];refine B (m+1) true af af ?_
     have:Ia cs i k m=true:=by simp[Ia,F]
     rw[this,iF] at h;exact h
    .rw[cond_neg aI,o25 H K z,aj];cases G:sub (cs.getD m 0) (cs.getD k 0) with
     |false=>
      rw[fS,ak];refine B (m+1) true af af ?_
      have:Ia cs i k m=true:=by simp only[Ia,G];simp
      rw[this,iF] at h;exact h
     |true=>
      rw[dS,aA,o25 H z hi,aj];refine B (m+1) _ af af ?_
      have:Ia cs i k m= !sub (cs.getD i 0) (cs.getD m 0):=by simp only[Ia,G];simp[e1,F]
      rw[this,iF] at h;exact h
def L9 (cs:List Nat) (i:Nat) (k:Nat):Bool:=k !=i&&sub (cs.getD i 0) (cs.getD k 0)&&(List.range cs.length).all (Ia cs i k)
theorem h28a {i:Nat} (hi:i<cs.length):∀(n k:Nat) (q:List Nat),cs.length-k=n->k<=cs.length->q.length<=k->
  HN l i k (cast q)=some (cast (q++(List.range' k (cs.length-k)).filter (L9 cs i))):=by
 have I:=H.len;have O:=H.length;intro n;induction n with
 |zero=>intro k q G D z;refine k28_3 ?_;rw[cond_neg aI,G];simp
 |succ n B=>
  intro k q G D z;refine k28_3 ?_;have N:List.range' k (cs.length-k)=k::List.range' (k+1) (cs.length-(k+1)):=by rw[show cs.length-k=(cs.length-(k+1))+1 by omega,ri]
  rw[cond_pos aI,bM af,N,nM];by_cases e:k=i
  .rw[cond_pos aI,B (k+1) q af af af]
   have:L9 cs i k=false:=by simp[L9,e]
   rw[this];rfl
  .rw[cond_neg aI,o25 H af hi,aj];cases F:sub (cs.getD i 0) (cs.getD k 0) with
   |false=>
    rw[fS,ak,B (k+1) q af af af]
    have:L9 cs i k=false:=by simp only[L9,F];simp
    rw[this];rfl
   |true=>
    rw[dS,aA];refine h28b H hi af aI _ 0 true rfl af ?_;have K:L9 cs i k=(List.range cs.length).all (Ia cs i k):=by simp only[L9,F];simp[e]
    rw[uW,<-zf,iF,<-K];cases L:L9 cs i k with
    |true=>have:=B (k+1) (q++[k]) af af aI;simpa using this
    |false=>have:=B (k+1) q af af af;simpa using this
omit H in
theorem Ze (i:Nat):(List.range cs.length).filter (L9 cs i)=ad8 cs i:=by
 unfold ad8 UH;rw[D7];apply lM;intro k P;rw[iZ];simp only[L9,aV,cI,gU,jx,yZ,c7,lQ,ne_eq,Ia,gE,ja];constructor
 .rintro⟨⟨q,z⟩,B⟩;refine⟨?_,q,z⟩;rintro m ⟨D,F,G⟩ ⟨I,K⟩;rcases B m D with((h|h)|h)|h
  .exact F h
  .exact I h
  .rw[K] at h;cases h
  .rw[G] at h;cases h
 .rintro⟨B,q,z⟩;refine⟨⟨q,z⟩,?_⟩;intro m D;by_cases e1:m=i
  .exact .inl (.inl (.inl e1))
  by_cases L:m=k
  .exact .inl (.inl (.inr L))
  cases N:sub (cs.getD m 0) (cs.getD k 0) with
  |false=>exact .inl (.inr rfl)
  |true=>cases O:sub (cs.getD i 0) (cs.getD m 0) with
   |false=>exact .inr rfl
   |true=>exact absurd ⟨L,N⟩ (B m ⟨D,e1,O⟩)
theorem o28 {i:Nat} (hi:i<cs.length):f28 l i=some (cast (ad8 cs i)):=by refine e28 ?_;have:=h28a H hi _ 0 [] rfl af ai;rw[uW,<-zf,Ze] at this;assumption
end
end Go.Proofs.YthphfjcnkinkpaaGreatDoor.cl
namespace Go.AM
abbrev cn:Type:=List UInt8
def SS (l:List cn):Prop:=l.Pairwise λa b=>Op.bytesLess a b=true
def Ju {a b:cn} (h:Op.bytesLess a b=true):a≠b:=λe=>by subst e;rw[Cm] at h;cases h
def SS.nodup {l:List cn} (h:SS l):l.Nodup:=h.imp λh=>Ju h
def qU (s:cn):List cn->List cn
 |[]=>[s]
 |x::l=>if Op.bytesLess x s=true then x::qU s l else if x=s then x::l else s::x::l
theorem Tj {s y:cn}:∀{l:List cn},y∈qU s l↔y=s\/y∈l:=by intro l;induction l with
 |nil=>simp[qU]
 |cons x l q=>
  unfold qU;split
  .simp only[aS,q];exact⟨λh=>h.elim (λh=> .inr (.inl h)) λh=>h.elim .inl λh=> .inr (.inr h),λh=>h.elim (λh=> .inr (.inl h)) λh=>h.elim .inl λh=> .inr (.inr h)⟩
  .split
   .rename_i h;subst h;simp
   .simp
def nD (s:cn):∀l:List cn,(qU s l).length<=l.length+1:=by intro l;induction l with
 |nil=>simp[qU]
 |cons x l q=>unfold qU;split<;>(try split)<;>simp<;>omega
def TR {s:cn}:∀{l:List cn},SS l->SS (qU s l):=by intro l;induction l with
 |nil=>intro _;simp[qU,SS]
 |cons x l K=>
  intro h;have z:=dU.1 h;unfold qU;split
  .rename_i I;refine dU.2 ⟨?_,K z.2⟩;intro y q;rcases Tj.1 q with rfl|q
   .exact I
   .exact z.1 y q
  .split
   .exact h
   .rename_i F G;have B:Op.bytesLess x s=false:=by simpa using F
    have D:=Bl x s B G;refine dU.2 ⟨?_,h⟩;intro y q;rcases aS.1 q with rfl|q
    .exact D
    .exact vK _ _ _ D (z.1 y q)
def oO (l:List cn):List cn:=l.foldl (λo s=>qU s o) []
def Dw:∀(l o:List cn),SS o->SS (l.foldl (λo s=>qU s o) o)/\(∀y,y∈l.foldl (λo s=>qU s o) o↔y∈o\/y∈l)/\(l.foldl (λo s=>qU s o) o).length<=o.length+l.length:=by intro l;induction l with
 |nil=>intro o h;exact⟨h,λy=>by simp,ai⟩
 |cons x l D=>
  intro o h;obtain⟨q,z,B⟩:=D (qU x o) (TR h);refine⟨q,λy=> ?_,?_⟩
  .show y∈List.foldl _ (qU x o) l↔_;rw[z,Tj,aS];exact⟨λh=>h.elim (λh=>h.elim (λh=> .inr (.inl h)) .inl) λh=> .inr (.inr h),λh=>h.elim (λh=> .inl (.inr h)) λh=>h.elim (λh=> .inl (.inl h)) .inr⟩
  .have:=nD x o;simp only[gx,bD] at B⊢;omega
theorem mz (l:List cn):SS (oO l):=(Dw l [] (by simp[SS])).1
theorem gB {l:List cn} {y:cn}:y∈oO l↔y∈l:=by have:=(Dw l [] (by simp[SS])).2.1 y;simpa[oO] using this
def qp (l:List cn):(oO l).length<=l.length:=by have:=(Dw l [] (by simp[SS])).2.2;simpa[oO] using this
theorem SS.ext:∀{l m:List cn},SS l->SS m->(∀y,y∈l↔y∈m)->l=m:=by intro l;induction l with
 |nil=>intro m _ _ h;cases m with
  |nil=>rfl
  |cons y m=>exact absurd ((h y).2 ai) ai
 |cons x l R=>intro m N O h;cases m with
  |nil=>exact absurd ((h x).1 ai) ai
  |cons y m=>
   have D:=dU.1 N;have F:=dU.1 O;have G:x=y:=by
    rcases aS.1 ((h x).1 ai) with e|P
    .exact e
    .rcases aS.1 ((h y).2 ai) with e|Q
     .exact e.symm
     .have L:=F.1 x P;have K:=D.1 y Q;rw[Bk L] at K;cases K
   subst G;congr 1;refine R D.2 F.2 λz=> ?_
   have I:=h z;simp only[aS] at I;constructor
   .intro q;rcases I.1 (.inr q) with e|B
    .subst e;exact absurd rfl (Ju (D.1 z q))
    .exact B
   .intro B;rcases I.2 (.inr B) with e|q
    .subst e;exact absurd rfl (Ju (F.1 z B))
    .exact q
theorem jA {I:Type}:∀{l m:List I},l.Nodup->(∀x∈l,x∈m)->l.length<=m.length:=by intro l;induction l with
 |nil=>intro m _ _;simp
 |cons x l G=>
  intro m F B;have q:=gy.1 F;obtain⟨a,b,rfl⟩:=D2 (B x ai)
  have:=G (m:=a++b) q.2 (λy D=>by
   have z:=B y (by simp[D]);simp only[bu,aS] at z⊢;rcases z with h|h|h
   .exact .inl h
   .subst h;exact absurd D q.1
   .exact .inr h)
  simp only[bD,cE] at this⊢;omega
def Wi {K:Type} {l m:List K} (D:l.Nodup) (G:∀x∈l,x∈m) (z:m.length<=l.length):∀x∈m,x∈l:=by
 intro x I;apply fh;intro F;have B:(x::l).Nodup:=gy.2 ⟨F,D⟩
 have:=jA (m:=m) B (λy q=>by
  rcases aS.1 q with rfl|q
  .exact I
  .exact G y q)
 simp at this;omega
def mD (o:List cn) (l:List cn):List cn:=l.foldl (λo y=>if y∈o then o else o++[y]) o
def RG:∀(l o:List cn),(∀y,y∈mD o l↔y∈o\/y∈l)/\(o.Nodup->(mD o l).Nodup)/\∃e,mD o l=o++e:=by intro l;induction l with
 |nil=>intro o;exact⟨λy=>by simp[mD],λh=>h,[],by simp[mD]⟩
 |cons x l G=>
  intro o;by_cases q:x∈o
  .obtain⟨z,B,D⟩:=G o;have e:mD o (x::l)=mD o l:=by simp[mD,q]
   rw[e];refine⟨λy=> ?_,B,D⟩;rw[z,aS];exact⟨λh=>h.elim .inl λh=> .inr (.inr h),λh=>h.elim .inl λh=>h.elim (λh=> .inl (h▸q)) .inr⟩
  .obtain⟨z,B,I,D⟩:=G (o++[x]);have e:mD o (x::l)=mD (o++[x]) l:=by simp[mD,q]
   rw[e];refine⟨λy=> ?_,λh=>B ?_,x::I,by rw[D];simp⟩
   .rw[z,aS,bu,cQ];exact⟨λh=>h.elim (λh=>h.elim .inl λh=> .inr (.inl h)) λh=> .inr (.inr h),λh=>h.elim (λh=> .inl (.inl h)) λh=>h.elim (λh=> .inl (.inr h)) .inr⟩
   .rw[ig];exact⟨h,by simp,λa K b F=>by simp only[cQ] at F;subst F;exact λe=>q (e▸K)⟩
inductive qG (next:cn->List cn) (x:cn):cn->Prop
 |refl:qG next x x
 |step {y z:cn}:qG next x y->z∈next y->qG next x z
theorem qG.trans {next:cn->List cn} {x y z:cn} (q:qG next x y) (B:qG next y z):qG next x z:=by induction B with
 |refl=>exact q
 |step _ D F=>exact .step F D
def search {R:Type} {next:cn->List cn} {U:List cn} {K:cn} (h0:K∈U) (hU:∀x∈U,∀y∈next x,y∈U)
  {outer:Nat->List cn->Option R} {fin:List cn->Option R}
  (G:∀i o,o.length<=U.length->o.length<=i->∀r,fin o=some r->outer i o=some r)
  (O:∀i o x,o.length<=U.length->(mD o (next x)).length<=U.length->o[i]? =some x->x∈U->∀r,outer (i+1) (mD o (next x))=some r->outer i o=some r):
  ∃o:List cn,o.Nodup/\(∀y,y∈o↔qG next K y)/\o.length<=U.length/\∀r,fin o=some r->outer 0 [K]=some r:=by
 have key:∀(n i:Nat) (o:List cn),U.length-i=n->o.Nodup->K∈o->(∀y∈o,y∈U/\qG next K y)->(∀j y,j<i->o[j]? =some y->∀z∈next y,z∈o)->
   ∃S:List cn,S.Nodup/\(∀y,y∈S↔qG next K y)/\S.length<=U.length/\∀r,fin S=some r->outer i o=some r:=by
  intro n;induction n with
  |zero=>
   intro i o hn L hx N hc;have q:=jA L λy B=>(N y B).1
   refine⟨o,L,λy=>⟨λB=>(N y B).2,λF=> ?_⟩,q,λr F=>G i o q af r F⟩;induction F with
   |refl=>exact hx
   |step _ Q ih=>obtain⟨j,hj,e⟩:=jw.1 ih;exact hc j _ af (by rw[aM hj,e]) _ Q
  |succ n ih=>
   intro i o hn L hx N hc;have q:=jA L λy B=>(N y B).1
   by_cases hi:i<o.length
   .have I:o[i]? =some o[i]:=aM hi;have P:=N o[i] (bB hi);obtain⟨a1,a2,e,a3⟩:=RG (next o[i]) o;have V:∀y∈mD o (next o[i]),y∈U/\qG next K y:=λy B=>by
     rcases(a1 y).1 B with h|h
     .exact N y h
     .exact⟨hU _ P.1 y h, .step P.2 h⟩
    obtain⟨S,r1,r2,r3,r4⟩:=ih (i+1) (mD o (next o[i])) af (a2 L) ((a1 _).2 (.inl hx)) V (λj y hj B z Q=>by
     by_cases hji:j<o.length
     .have D:o[j]? =some y:=by
       rw[a3,fV hji] at B;exact B
      by_cases e2:j=i
      .subst e2;rw[I] at D;injection D with D;subst D;exact(a1 z).2 (.inr Q)
      .exact(a1 z).2 (.inl (hc j y af D z Q))
     .omega)
    exact⟨S,r1,r2,r3,λr F=>O i o _ q (jA (a2 L) λy B=>(V y B).1) I P.1 r (r4 r F)⟩
   .refine⟨o,L,λy=>⟨λB=>(N y B).2,λF=> ?_⟩,q,λr F=>G i o q af r F⟩;induction F with
    |refl=>exact hx
    |step _ Q ih=>obtain⟨j,hj,e⟩:=jw.1 ih;exact hc j _ af (by rw[aM hj,e]) _ Q
 exact key _ 0 [K] rfl ai ai (λy B=>by simp only[cQ] at B;subst B;exact⟨h0, .refl⟩) (λj y hj=>by omega)
end Go.AM
namespace Go.Proofs.YthphfjcnkinkpaaGreatDoor.cl
open Go Go.AM
def h37 (l:List cn) (s:cn) (q:l.length<=1073741824):∀(xs:List cn) (i:Nat),l.drop i=xs->Yx l s i=some (decide (s∈xs)):=by intro xs;induction xs with
 |nil=>grind[k37_2,aW]
 |cons x xs z=>intro i h;refine k37_2 ?_;rw[aP h,aJ h,aN h q,z _ (aH h)];grind
def c37 (l:List cn) (s:cn) (q:l.length<=1073741824):f37 l s=some (decide (s∈l)):=e37 (h37 l s q l 0 rfl)
def h98 (l:List cn) (s:cn) (F:l.length<=1073741824):∀(xs:List cn) (i:Nat),l.drop i=xs->i<=l.length->YH l s i []=some (l.take i++qU s xs):=by intro xs;induction xs with
 |nil=>
  intro i h q;refine k98_3 ?_;have D:=kJ h;obtain rfl:i=l.length:=by omega
  rw[aW h,aA,aA,Ep (aZ _),bT aI,bT aI,Ep (aZ _),bT aI];simp[qU]
 |cons x xs I=>
  intro i h q;refine k98_3 ?_;have G:=dN h;have z:l.take (i+1)=l.take i++[x]:=by rw[cM,bV h];rfl
  have B:(l.take l.length).drop i=x::xs:=by simp_all
  rw[aP h,ak,aJ h,ak,aJ h,aN h F,I (i+1) (aH h) af,qU];cases K:Op.bytesLess x s with
  |true=>simp[z]
  |false=>
   rw[aA];by_cases e:x=s
   .subst e;rw[cond_pos ai];simp[aB,eG,gL,<-h,lT]
   .rw[Ep af,cC _ ai aI af,cC _ aI ai af,Ep af,cC _ aI aI af];grind
def c98 (l:List cn) (s:cn) (q:l.length<=1073741824):f98 l s=some (qU s l):=e98 (by
 have:=h98 l s q l 0 rfl af
 assumption)
def h111 (d:List aC) (s:cn) (q:d.length<=1073741824):∀(xs:List aC) (i:Nat),d.drop i=xs->P9 d s i=some (jf (λt=>t.Name==s) xs i):=by intro xs;induction xs with
 |nil=>intro i h;refine ab4 ?_;rw[aW h];rfl
 |cons x xs z=>intro i h;refine ab4 ?_;rw[aP h,aJ h,aN h q,z _ (aH h),jf];grind
def fd (d:List aC) (s:cn):Int:=jf (λt=>t.Name==s) d 0
def Y5 (d:List aC) (s:cn) (q:d.length<=1073741824):f111 d s=some (fd d s):=e111 (h111 d s q d 0 rfl)
abbrev ku (d:List aC):List cn:=d.map (·.Name)
def abY {q:Type} (p:q->Bool):∀(xs:List q) (i:Nat),jf p xs i<0↔∀x∈xs,p x=false:=by intro xs;induction xs with
 |nil=>simp[jf]
 |cons x xs z=>grind[jf]
def XG {q:Type} (p:q->Bool):∀(xs:List q) (i:Nat),(∃x∈xs,p x=true)->∃j,∃h:j<xs.length,jf p xs i=((i+j:Nat):Int)/\p xs[j]=true/\∀k (z:k<j),p (xs[k]'(by omega))=false:=by intro xs;induction xs with
 |nil=>simp
 |cons x xs B=>intro i h;rw[jf];cases G:p x with
  |true=>exact⟨0,by simp,by simp,by assumption,λk z=>by omega⟩
  |false=>
   obtain⟨j,hj,e,D,F⟩:=B (i+1) (by simp_all);refine⟨j+1,by simp;omega,?_,by assumption,?_⟩
   .grind
   grind
def Ov {d:List aC} {s:cn}:fd d s<0↔s∉ku d:=by simp_all[fd,abY]
def Iv {d:List aC} {s:cn} (h:s∈ku d):∃j,∃hj:j<d.length,fd d s=(j:Int)/\d[j].Name=s/\∀k (F:k<j),(d[k]'(by omega)).Name≠s:=by obtain⟨t,q,e⟩:=aG.1 h;obtain⟨j,hj,z,B,D⟩:=XG (λt:aC=>t.Name==s) d 0 ⟨t,q,by simp_all⟩;grind[fd]
def h52 (d:List aC) (q:d.length<=1073741824):∀(xs:List aC) (i:Nat) (o:List cn),d.drop i=xs->o.length<=i->Yy d o i=some ((xs.map (·.Name)).foldl (λo s=>qU s o) o):=by intro xs;induction xs with
 |nil=>grind[k52_3,aW]
 |cons x xs z=>intro i o h B;refine k52_3 ?_;have:=dN h;have:=nD x.Name o;rw[aP h,aJ h,aN h q,c98 _ _ af,aj,z _ _ (aH h) af];rfl
def c52 (d:List aC) (q:d.length<=1073741824):f52 d=some (oO (ku d)):=e52 (h52 d q d 0 _ rfl ai)
def UP (d:List aC):Bool:=decide (d.length>256)||d.any λt=>decide (t.ee.length>256)||decide (t.bC.length>256)
def h70 (d:List aC) (q:d.length<=1073741824):∀(xs:List aC) (i:Nat),d.drop i=xs->YE d i=some (if(xs.any λt=>decide (t.ee.length>256)||decide (t.bC.length>256))=true then 7 else 0):=by intro xs;induction xs with
 |nil=>grind[k70_4,aW]
 |cons x xs z=>intro i h;refine k70_4 ?_;rw[aP h,aJ h,aJ h,aN h q,z _ (aH h)];grind
def c70 (d:List aC):f70 d=some (if UP d=true then 7 else 0):=by
 refine e70 ?_;by_cases h:d.length>256
 .rw[cond_pos aI];simp[UP,h]
 .rw[cond_neg aI];have e:decide (d.length>256)=false:=by simpa using h
  rw[UP,e];exact h70 d af d 0 rfl
def pq (c:UInt8):Bool:=decide (48<=c.toNat)&&decide (c.toNat<=57)
def DC (c:UInt8):Bool:=decide (97<=c.toNat)&&decide (c.toNat<=122)
def isName (s:cn):Bool:=decide (1<=s.length)&&decide (s.length<=32)&& !pq (s.getD 0 0)&& !(s.getD 0 0).toNat==45&&s.all λc=>pq c||c.toNat==45||DC c
def c159 (c:UInt8):f159 (c.toNat:Int)=some (pq c):=by
 refine e159 ?_;by_cases h:48<=c.toNat
 .rw[cond_pos aI];simp[pq];congr 1;grind
 .rw[cond_neg aI];simp[pq,h]
def c167 (c:UInt8):f167 (c.toNat:Int)=some (DC c):=by
 refine e167 ?_;by_cases h:97<=c.toNat
 .rw[cond_pos aI];simp[DC];congr 1;grind
 .rw[cond_neg aI];simp[DC,h]
def c160 (c:UInt8):f160 (c.toNat:Int) false=some (pq c||c.toNat==45||DC c):=by refine e160 ?_;rw[c159,c167];cases pq c with
 |true=>rfl
 |false=>
  by_cases h:c.toNat=45
  .simp_all
  grind
def h140 (s:cn) (q:s.length<=1073741824):∀(xs:cn) (i:Nat),s.drop i=xs->Lc s false i=some (xs.all λc=>pq c||c.toNat==45||DC c):=by intro xs;induction xs with
 |nil=>grind[OO,aW]
 |cons x xs z=>intro i h;refine OO ?_;rw[aP h,aJ h,c160,aN h q,z _ (aH h)];grind
def Jw (s:cn):f110 s=some (isName s):=by
 refine e110 ?_
 have:f140 s false=some (isName s):=by
  refine e140 ?_;by_cases B:1<=s.length
  .rw[cond_neg aI];by_cases z:s.length<=32
   .rw[show(0:Int)=((0:Nat)) from rfl,bU af,c159,bU af,h140 s af s 0 rfl];have q:s.getD 0 0=s[0]:=by rw[bA,aM _];rfl
    unfold isName;rw[q];cases pq _ with
    |true=>simp
    |false=>
     by_cases D:s[0].toNat=45
     .simp_all
     grind
   .rw[cond_pos aI];simp[isName,z]
  .simp_all[isName]
 simp_all
def xm:List cn->List aC->Int
 |_,[]=>0
 |q,t::z=>if isName t.Name=false then 1 else if t.Name∈q then 4 else xm (q++[t.Name]) z
def fd_lt {d:List aC} {i:Nat} {t:aC} {G:List aC} (h:d.drop i=t::G):fd d t.Name<(i:Int)↔t.Name∈(d.take i).map (·.Name):=by
 have q :=bV h;obtain⟨j,hj,e,z,K⟩:=Iv (nP (aR q));constructor
 .intro B;refine aG.2 ⟨_,?_,z⟩;rw[uX];grind
 .intro D;obtain⟨u,F,I⟩:=aG.1 D;rw[uX] at F;grind
def h71 (d:List aC) (q:d.length<=1073741824):∀(xs:List aC) (i:Nat),d.drop i=xs->YF d i=some (xm ((d.take i).map (·.Name)) xs):=by intro xs;induction xs with
 |nil=>intro i h;refine k71_2 ?_;rw[aW h];rfl
 |cons x xs z=>
  intro i h;refine k71_2 ?_;have B:d.take (i+1)=d.take i++[x]:=by rw[cM,bV h];rfl
  rw[aP h,aJ h,Jw,aJ h,Y5 d _ q,aN h q,z _ (aH h),xm];cases F:isName _ with
  |false=>rfl
  |true=>
   by_cases D:x.Name∈(d.take i).map (·.Name)
   .simp_all[fd_lt]
   simp_all[fd_lt]
def c71 (d:List aC) (q:d.length<=1073741824):f71 d=some (xm [] d):=e71 (h71 d q d 0 rfl)
def spK (z:List cn):List cn->List cn->Int
 |_,[]=>0
 |q,s::ss=>if s∉z then 5 else if s∈q then 4 else spK z (q++[s]) ss
def yL (q:List cn):List aC->Int
 |[]=>0
 |t::z=>if spK q [] t.ee=0 then yL q z else spK q [] t.ee
def h72b (d:List aC) (z:d.length<=1073741824) (i:Nat) (hi:i<d.length) (l:List cn) (q:l.length<=1073741824) {r:Int} (D:Uf d (i+1:Nat)=some r):∀(xs:List cn) (k:Nat),l.drop k=xs->
  YG d i l k=some (if spK (ku d) (l.take k) xs=0 then r else spK (ku d) (l.take k) xs):=by
 intro xs;induction xs with
 |nil=>intro k h;refine k72_6 ?_;rw[aW h,aA,bM af,D];rfl
 |cons x xs F=>
  intro k h;refine k72_6 ?_;have B:=dN h;rw[aP h,ak,aJ h,Y5 d _ z,aj,spK];by_cases G:x∈ku d
  .rw[cond_neg (by simp_all[Ov]),Ep af,aJ h,c37 _ _ aI,aN h q,F _ (aH h)];have e:List.drop 0 (List.take (Int.toNat (k)) l)=l.take k:=ai;grind
  simp_all[Ov]
def h72 (d:List aC) (q:d.length<=1073741824) (z:∀t∈d,t.ee.length<=1073741824):∀(xs:List aC) (i:Nat),d.drop i=xs->Uf d i=some (yL (ku d) xs):=by intro xs;induction xs with
 |nil=>intro i h;refine k72_2 ?_;rw[aW h];rfl
 |cons x xs B=>intro i h;refine k72_2 ?_;rw[aP h,ak,aJ h];exact h72b d q i (dN h) _ (z x (aR (bV h))) (B _ (aH h)) _ 0 rfl
def c72 (d:List aC) (q:d.length<=1073741824) (z:∀t∈d,t.ee.length<=1073741824):f72 d=some (yL (ku d) d):=e72 (h72 d q z d 0 rfl)
def Ko:∀(d:List aC) (q:List cn),xm q d=0↔(∀t∈d,isName t.Name=true)/\(ku d).Nodup/\∀t∈d,t.Name∉q:=by intro d;induction d with
 |nil=>simp[xm]
 |cons t d z=>unfold xm;grind
theorem ad5 (z:List cn):∀(l q:List cn),spK z q l=0↔(∀s∈l,s∈z)/\l.Nodup/\∀s∈l,s∉q:=by intro l;induction l with
 |nil=>simp[spK]
 |cons s l B=>unfold spK;grind
theorem K4 (q:List cn):∀(d:List aC),yL q d=0↔∀t∈d,(∀s∈t.ee,s∈q)/\t.ee.Nodup:=by intro d;induction d with
 |nil=>simp[yL]
 |cons t d z=>unfold yL;have:=ad5 q t.ee [];grind
