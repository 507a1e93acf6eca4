/- The Closure laws, plain. -/
import Derived.Test.YthphfjcnkinkpaaGreatDoorAmI
import Derived.Test.YthphfjcnkinkpaaGreatDoorClF
import Derived.Test.YthphfjcnkinkpaaGreatDoorClO
set_option linter.all false
open Go.IntKind (wrap)
open BitVec (ofInt)
namespace Go.Proofs.YthphfjcnkinkpaaGreatDoor.cl
def sub (a b:Nat):Bool:=a&&&b==a
def Yz {a b:Nat}:sub a b=true↔a&&&b=a:=by simp[sub]
theorem j0 {a b:Nat}:sub a b=true↔∀i,a.testBit i=true->b.testBit i=true:=by
 rw[Yz];constructor
 .intro h i hi;have:=aP (λx=>x.testBit i) h;simp only[lN,hi,iz] at this;exact this
 .intro h;apply uZ;intro i;rw[lN];cases hi:a.testBit i with
  |false=>rfl
  |true=>rw[h i hi];rfl
def zf (a:Nat):sub a a=true:=j0.2 λ_ h=>h
def zg {a b c:Nat} (q:sub a b=true) (z:sub b c=true):sub a c=true:=j0.2 λi h=>j0.1 z i (j0.1 q i h)
def sL {a b:Nat} (q:sub a b=true) (z:sub b a=true):a=b:=by apply uZ;intro i;rw[iU];exact⟨j0.1 q i,j0.1 z i⟩
def FW (a b:Nat):sub (a&&&b) a=true:=j0.2 λi h=>by rw[lN,aU] at h;exact h.1
def MV (a b:Nat):sub (a&&&b) b=true:=j0.2 λi h=>by rw[lN,aU] at h;exact h.2
def Yy {a b c:Nat} (q:sub a b=true) (z:sub a c=true):sub a (b&&&c)=true:=j0.2 λi h=>by rw[lN,j0.1 q i h,j0.1 z i h];rfl
def HK (cs:List Nat) (w:Nat):Int:=match cs.findIdx? (· ==w) with
 |some i=>(i:Int)
 |none=> -1
def Xy {cs:List Nat} {w:Nat} (h:w∉cs):HK cs w= -1:=by
 have:cs.findIdx? (· ==w)=none:=by rw[EC];intro x q;simp;intro e;subst e;exact h q
 simp[HK,this]
def OS {cs:List Nat} {w:Nat} (h:w∈cs):∃i,i<cs.length/\cs.getD i 0=w/\HK cs w=(i:Int):=by cases e:cs.findIdx? (· ==w) with
 |none=>rw[EC] at e;have:=e w h;simp at this
 |some i=>
  rw[zB] at e;obtain⟨hi,q,_⟩:=e;refine⟨i,hi,?_,?_⟩
  .rw[bw,aM hi];simpa using q
  .have z:cs.findIdx? (· ==w)=some i:=by
    rw[zB];exact⟨hi,q,by assumption⟩
   simp[HK,z]
theorem lF {cs:List Nat} {i:Nat} (h:i<cs.length):cs.getD i 0∈cs:=by rw[bw,aM h];exact bU h
theorem getD_inj {cs:List Nat} (nd:cs.Nodup) {i j:Nat} (hi:i<cs.length) (hj:j<cs.length) (h:cs.getD i 0=cs.getD j 0):i=j:=by rw[bw,bw,aM hi,aM hj] at h;exact(rQ nd).1 h
structure aaN (cs:List Nat):Prop where
 nd:cs.Nodup
 nz:∀c∈cs,c≠0
 cl:∀a∈cs,∀b∈cs,a&&&b≠0->a&&&b∈cs
 top:∀c∈cs,sub c (cs.getD 0 0)=true
 pos:0<cs.length
 Bj:∀i j,i<cs.length->j<cs.length->sub (cs.getD j 0) (cs.getD i 0)=true->i<=j
def UO (cs:List Nat) (i:Nat):List Nat:=(List.range cs.length).filter λk=>k !=i&&sub (cs.getD i 0) (cs.getD k 0)
def aeh (cs:List Nat) (i:Nat):List Nat:=(UO cs i).filter λk=> !(UO cs i).any λm=>m !=k&&sub (cs.getD m 0) (cs.getD k 0)
end Go.Proofs.YthphfjcnkinkpaaGreatDoor.cl
namespace Go.Proofs.YthphfjcnkinkpaaGreatDoor.cl
open Go Go.AM
abbrev W:=List Int
def wd (b:W) (i:Nat):Int:=b.getD i 0
def nl (b:W):Nat->Nat
 |0=>0
 |n+1=>if wd b n=0 then nl b n else n+1
def norm (b:W):W:=b.take (nl b b.length)
def Hy (x y:Int):Int:=wrap .u64 ((ofInt (IntKind.bits .u64) x&&&ofInt (IntKind.bits .u64) y).toNat:Int)
def or64 (x y:Int):Int:=wrap .u64 ((ofInt (IntKind.bits .u64) x|||ofInt (IntKind.bits .u64) y).toNat:Int)
def zc (x y:Int):Int:=wrap .u64 ((ofInt (IntKind.bits .u64) x&&& ~~~ofInt (IntKind.bits .u64) y).toNat:Int)
theorem adN (b:W):∀n,nl b n<=n
 |0=>aR _
 |n+1=>by unfold nl;split;exact Nat.le_succ_of_le (adN b n);exact aR _
def CB {b:W} {i:Nat} (h:i<b.length):b[i]=wd b i:=by simp[wd,bw,aM h]
theorem CC {b:W} {i:Nat} (h:b.length<=i):wd b i=0:=by simp[wd,bw,gA h]
def c106 (b:W) (i:Nat):f106 b i=some (wd b i):=by
 refine e106 ?_;by_cases h:i<b.length
 .rw[cond_pos aH,cH h,CB h]
 .rw[cond_neg aH,CC af]
def c107 (b:W) (i:Nat):f107 b i=some (wd b i):=by
 refine e107 ?_;by_cases h:i<b.length
 .rw[cond_pos aH,cH h,CB h]
 .rw[cond_neg aH,CC af]
def h68 (b:W) (B:b.length<=1073741824):∀(n:Nat),n<=b.length->YK b n=some (b.take (nl b n)):=by intro n;induction n with
 |zero=>intro q;refine k68_2 ?_;rw[cond_neg ai,bW ai];simp[nl]
 |succ n z=>
  intro q;refine k68_2 ?_;rw[cond_pos ai,qq af,cH af,CB];by_cases h:wd b n=0
  .rw[cond_pos (by simpa using h),z af];simp[nl,h]
  .rw[cond_neg (by simpa using h),bW aH]
   have:nl b (n+1)=n+1:=by simp[nl,h]
   simp[this]
def c68 (b:W) (q:b.length<=1073741824):f68 b=some (norm b):=e68 (h68 b q _ (aR _))
def h60 (b:W) (B:b.length<=1073741824):∀(n:Nat),n<=b.length->YH b n=some (b.take (nl b n)):=by intro n;induction n with
 |zero=>intro q;refine k60_2 ?_;rw[cond_neg ai,bW ai,bW ai];simp[nl]
 |succ n z=>
  intro q;refine k60_2 ?_;rw[cond_pos ai,qq af,cH af,CB];by_cases h:wd b n=0
  .rw[cond_pos (by simpa using h),z af];simp[nl,h]
  .rw[cond_neg (by simpa using h),bW aH,bW aH]
   have:nl b (n+1)=n+1:=by simp[nl,h]
   simp[this]
def c60 (b:W) (q:b.length<=1073741824):f60 b=some (norm b):=e60 (h60 b q _ (aR _))
def Gf (n:Nat) (f:Nat->Int):W:=(List.range n).map f
def Ut (n:Nat) (f:Nat->Int):Gf (n+1) f=Gf n f++[f n]:=by simp[Gf,kE]
def tv (n:Nat) (f:Nat->Int):(Gf n f).length=n:=by simp[Gf]
theorem aeC (n:Nat) (f:Nat->Int) (i:Nat):wd (Gf n f) i=if i<n then f i else 0:=by by_cases h:i<n<;>simp[wd,Gf,bw,dA,uY,h]
def h61 (a b:W) (z:a.length<=1073741824):∀(n i:Nat),a.length-i=n->i<=a.length->
  YI a b i (Gf i λj=>Hy (wd a j) (wd b j))=some (norm (Gf a.length λj=>Hy (wd a j) (wd b j))):=by
 intro n;induction n with
 |zero=>
  intro i hi q
  have:i=a.length:=af
  subst this;refine k61_3 ?_;rw[cond_neg ai,c60 _ (by rw[tv];exact z)];rfl
 |succ n B=>intro i hi q;refine k61_3 ?_;rw[cond_pos aH,cH af,c106,aj,cC _ (by rw[tv];omega) ai af,bM af,CB];have:=B (i+1) af af;rw[Ut] at this;exact this
theorem c61 (a b:W) (q:a.length<=1073741824):f61 a b=some (norm (Gf a.length λj=>Hy (wd a j) (wd b j))):=
 e61 (h61 a b q _ 0 rfl (cS _))
def h108 (a b:W) (z:a.length<=1073741824):∀(n i:Nat),a.length-i=n->i<=a.length->
  Qn a b i (Gf i λj=>zc (wd a j) (wd b j))=some (norm (Gf a.length λj=>zc (wd a j) (wd b j))):=by
 intro n;induction n with
 |zero=>
  intro i hi q
  have:i=a.length:=af
  subst this;refine acm ?_;rw[cond_neg ai,c60 _ (by rw[tv];exact z)];rfl
 |succ n B=>intro i hi q;refine acm ?_;rw[cond_pos aH,cH af,c106,aj,cC _ (by rw[tv];omega) ai af,bM af,CB];have:=B (i+1) af af;rw[Ut] at this;exact this
def c108 (a b:W) (q:a.length<=1073741824):f108 a b=some (norm (Gf a.length λj=>zc (wd a j) (wd b j))):=
 e108 (h108 a b q _ 0 rfl (cS _))
def minI (x y:Nat):(if(y:Int)<(x:Int) then(y:Int) else(x:Int))=((min x y:Nat):Int):=by split<;>omega
def IF (n i:Nat) (f:Nat->Int):W:=Gf n λj=>if j<i then f j else 0
def ZB (n:Nat) (f:Nat->Int):IF n 0 f=List.replicate n 0:=by apply nF<;>simp[IF,Gf]
def ZA (n:Nat) (f:Nat->Int):IF n n f=Gf n f:=by
 apply nF
 .simp[IF,Gf]
 .intro j q z;simp[IF,Gf] at q⊢;intro h;omega
def HL (n i:Nat) (f:Nat->Int):(IF n i f).length=n:=by simp[IF,Gf]
def abL (n i:Nat) (f:Nat->Int) (h:i<n):(IF n i f).set i (f i)=IF n (i+1) f:=by
 apply nF
 .simp[IF,Gf]
 .intro j z B;simp only[IF,Gf,List.getElem_set,kF,ED];by_cases e:i=j
  .subst e;simp
  .simp only[e,gG];by_cases q:j<i
   .simp[q,Nat.lt_succ_of_lt q]
   .have:¬j<i+1:=af
    simp[q,this]
def h29 (a b:W) (m:Nat) (z:m<=1073741824) (D:m<=a.length) (F:m<=b.length):∀(n i:Nat),m-i=n->i<=m->
  Uo a b m i (IF m i λj=>Hy (wd a j) (wd b j))=some (norm (Gf m λj=>Hy (wd a j) (wd b j))):=by
 intro n;induction n with
 |zero=>
  intro i hi q
  have:i=m:=af
  subst this;refine k29_3 ?_;rw[cond_neg ai,ZA,c68 _ (by rw[tv];exact z)];rfl
 |succ n B=>intro i hi q;refine k29_3 ?_;rw[cond_pos aH,cH af,cH af,BR (by rw[HL];omega),aZ,se (by rw[HL];omega),bM af,CB,CB];have:=B (i+1) af af;rw[<-abL m i _ af] at this;exact this
def c29 (a b:W) (q:a.length<=1073741824) (z:b.length<=1073741824):f29 a b=some (norm (Gf (min a.length b.length) λj=>Hy (wd a j) (wd b j))):=by refine e29 ?_;simp only[minI,aZ,pZ];rw[bW af];have:=h29 a b (min a.length b.length) af af af _ 0 rfl (cS _);rw[ZB] at this;exact this
def G2 (a b:W):Bool:=(List.range a.length).all λj=>zc (wd a j) (wd b j)==0
def uf (a b:W) (i:Nat):Bool:=(List.range' i (a.length-i)).all λj=>zc (wd a j) (wd b j)==0
def Qk (a b:W) (i:Nat) (h:a.length<=i):uf a b i=true:=by
 have:a.length-i=0:=af
 simp[uf,this]
theorem MW (a b:W) (i:Nat) (h:i<a.length):uf a b i=(zc (wd a i) (wd b i)==0&&uf a b (i+1)):=by
 have:a.length-i=(a.length-(i+1))+1:=af
 rw[uf,this,q7,lW];rfl
def h63 (a b:W) (B:a.length<=1073741824):∀(n i:Nat),a.length-i=n->i<=a.length->YJ b a a.length i=some (uf a b i):=by intro n;induction n with
 |zero=>intro i hi q;refine k63_2 ?_;rw[cond_neg aH,Qk a b i af]
 |succ n z=>
  intro i hi q;refine k63_2 ?_;rw[cond_pos aH,cH af,c107,aj,MW a b i af,CB];by_cases h:zc (wd a i) (wd b i)=0
  .rw[cond_neg (by simpa[zc] using h),bM af,z (i+1) af af];simp[h]
  .rw[cond_pos (by simpa[zc] using h)];simp only[show(zc (wd a i) (wd b i)==0)=false by simpa using h,pR]
theorem c63 (a b:W) (q:a.length<=1073741824):f63 a b=some (G2 a b):=by refine e63 ?_;rw[show G2 a b=uf a b 0 by simp[G2,uf,zI]];exact h63 a b q _ 0 rfl (cS _)
def Yh (b:W):∀n,nl b n=0↔∀j,j<n->wd b j=0
 |0=>by simp[nl]
 |n+1=>by
  unfold nl;split
  .rename_i h;rw[Yh b n];constructor
   .intro q j hj;by_cases e:j=n
    .subst e;exact h
    .exact q j af
   .intro q j hj;exact q j af
  .rename_i h;constructor
   .intro q;omega
   .intro q;exact absurd (q n af) h
def adQ (b:W):(norm b).length=0↔∀j,j<b.length->wd b j=0:=by rw[norm,fh,xe (adN b _),Yh]
theorem c65 (a b:W) (q:a.length<=1073741824):f65 a b=some (G2 a b):=by
 refine e65 ?_;rw[c108 a b q,aj];congr 1;rw[iU];have e:(((norm (Gf a.length λj=>zc (wd a j) (wd b j))).length:Int)==0)=((norm (Gf a.length λj=>zc (wd a j) (wd b j))).length==0):=by rw[iU];simp
 rw[e];simp only[iV,adQ,tv,G2,cI,gQ];constructor
 .intro h j hj;have:=h j hj;rwa[aeC,aB hj] at this
 .intro h j hj;rw[aeC,aB hj];exact h j hj
def c102 (a b:W) (q:a.length<=1073741824) (z:b.length<=1073741824):f102 a b=some (G2 a b&&G2 b a):=by refine e102 ?_;rw[c65 a b q,c65 b a z];cases G2 a b<;>rfl
def h57 (a b:W) (z:a.length<=1073741824) (B:a.length=b.length):∀(xs:W) (i:Nat),a.drop i=xs->YG a b i=some (decide (a.drop i=b.drop i)):=by intro xs;induction xs with
 |nil=>intro i h;refine k57_4 ?_;have:=mI h;rw[bp h,aA,h,rR af];simp
 |cons x xs F=>
  intro i h;refine k57_4 ?_;have D:=dY h;rw[aT h,au,aK h,cH af,aQ h z,h,iW (l:=b) (i:=i) af];have e:=F (i+1) (aI h);rw[aI h] at e;by_cases q:x=b[i]
  .rw[cond_neg (by simpa using q),e];simp only[q,cR,ew]
  .rw[cond_pos (by simpa using q)];simp only[cR,q,false_and,zJ]
def c57 (a b:W) (q:a.length<=1073741824):f57 a b=some (decide (a=b)):=by
 refine e57 ?_;by_cases h:a.length=b.length
 .rw[cond_neg aH];exact h57 a b q h _ 0 rfl
 .rw[cond_pos aH]
  have:a≠b:=λe=>h (by rw[e])
  simp[this]
end Go.Proofs.YthphfjcnkinkpaaGreatDoor.cl
namespace Go.Proofs.YthphfjcnkinkpaaGreatDoor.cl
open Go Go.AM
def e1 (w:Nat):W:=if w=0 then[] else[(w:Int)]
theorem mM (w:Nat):(e1 w).length<=1:=by unfold e1;grind
theorem Od (w:Nat):wd (e1 w) 0=(w:Int):=by grind[e1,wd]
def W5 (w j:Nat):wd (e1 w) (j+1)=0:=CC (by have:=mM w;omega)
theorem Vl {w v:Nat} (h:e1 w=e1 v):w=v:=by grind[Od]
theorem Gm {w v:Nat} (hw:w<18446744073709551616) (hv:v<18446744073709551616):Hy (w:Int) (v:Int)=((w&&&v:Nat):Int):=by have h:w&&&v<=w:=rS;show wrap _ (((BitVec.ofNat 64 w&&&BitVec.ofNat _ v).toNat))=_;grind[AX]
def adY {w v:Nat} (hw:w<18446744073709551616) (hv:v<18446744073709551616):w|||v<18446744073709551616:=by have:=Nat.or_lt_two_pow (n:=64) (x:=w) (y:=v) (by simpa using hw) (by simpa using hv);simpa using this
def adX {w v:Nat} (hw:w<18446744073709551616) (hv:v<18446744073709551616):or64 (w:Int) (v:Int)=((w|||v:Nat):Int):=by have h:=adY hw hv;show wrap _ (((BitVec.ofNat 64 w|||BitVec.ofNat _ v).toNat))=_;grind[AX]
theorem ze {w v:Nat} (hw:w<18446744073709551616) (hv:v<18446744073709551616):zc (w:Int) (v:Int)=0↔sub w v=true:=by
 show wrap _ (((BitVec.ofNat 64 w&&& ~~~BitVec.ofNat _ v).toNat))=0↔_;rw[AX af af];have e:((((BitVec.ofNat 64 w&&& ~~~BitVec.ofNat _ v).toNat):Int)=0)↔(BitVec.ofNat 64 w&&& ~~~BitVec.ofNat _ v).toNat=0:=af;rw[e,j0];constructor
 .intro h i hi;have q:i<64:=by
   apply ff;intro z
   have:w.testBit i=false:=zK (fG (by omega:w<2^ 64) (u6 af af))
   rw[this] at hi;cases hi
  have:=aP (λx=>x.testBit i) h;grind
 .intro h;apply uZ;simp only[BitVec.testBit_toNat,BitVec.getLsbD_and,BitVec.getLsbD_not,BitVec.getLsbD_ofNat];simp_all
def ZZ (f:Nat->Int):norm (Gf 1 f)=if f 0=0 then[] else[f 0]:=by
 have:Gf 1 f=[f 0]:=by simp[Gf,kE]
 rw[this];unfold norm;simp only[c4,nl];have hw:wd [f 0] 0=f 0:=rfl;rw[hw];split<;>simp
theorem TN {f:Nat->Int} {n w:Nat} (B:n<=1) (z:n=1->f 0=(w:Int)) (q:n=0->w=0):norm (Gf n f)=e1 w:=by cases n with
 |zero=>rw[q rfl];rfl
 |succ n=>
  have:n=0:=af
  subst this;rw[ZZ];simp_all[e1]
theorem EZ {w:Nat} (h:(e1 w).length=0):w=0:=by simp_all[e1]
section
variable {w v:Nat} (hw:w<18446744073709551616) (hv:v<18446744073709551616)
include hw hv
theorem o61:f61 (e1 w) (e1 v)=some (e1 (w&&&v)):=by grind[mM,c61,TN,Od,Gm,EZ]
theorem Z1:f29 (e1 w) (e1 v)=some (e1 (w&&&v)):=by
 have B:=mM w;have z:=mM v;rw[c29 _ _ af af];congr 1;refine TN af (λ_=> ?_) (λh=> ?_)
 .rw[Od,Od,Gm hw hv]
 .by_cases q:(e1 w).length=0
  .rw[EZ q];simp
  .rw[EZ (show(e1 v).length=0 by omega)];simp
theorem YA:G2 (e1 w) (e1 v)=sub w v:=by simp[G2];grind[e1,j0,Od,ze]
theorem o63:f63 (e1 w) (e1 v)=some (sub w v):=by grind[c63,mM,YA]
theorem o65:f65 (e1 w) (e1 v)=some (sub w v):=by grind[c65,mM,YA]
theorem o57:f57 (e1 w) (e1 v)=some (decide (w=v)):=by rw[c57 _ _ (by have:=mM w;omega)];congr 1;rw[u7];exact⟨Vl,λh=>by rw[h]⟩
end
def TJ {a b:W} (h:∀j,wd a j=wd b j):∀n,nl a n=nl b n
 |0=>rfl
 |n+1=>by unfold nl;rw[h n,TJ h n]
def adM (a:W):∀n,a.length<=n->nl a n=nl a a.length:=by intro n z;induction n with
 |zero=>simp_all
 |succ n q=>
  by_cases h:a.length=n+1
  .rw[h]
  .rw[<-q af];show(if wd a n=0 then nl a n else n+1)=_;rw[aB (CC af)]
def TM {a b:W} (h:∀j,wd a j=wd b j):norm a=norm b:=by
 have q:nl a a.length=nl b b.length:=by rw[<-adM a (max a.length _) af,<-adM b (max _ b.length) af,TJ h]
 unfold norm;apply nF
 .grind[adN]
 simp_all[CB]
theorem nl_pos {a:W}:∀n j,nl a n<=j->j<n->wd a j=0:=by intro n;induction n with
 |zero=>intro j _ h;omega
 |succ n z=>
  intro j q B;unfold nl at q;split at q
  .rename_i h;by_cases e:j=n
   .subst e;exact h
   .exact z j q af
  .omega
def YZ (a:W) (j:Nat):wd (norm a) j=wd a j:=by
 unfold norm;by_cases h:j<nl a a.length
 .rw[wd,bw,List.getElem?_take_of_lt h,wd,bw]
 grind[CC,nl_pos]
theorem Je (w:Nat):norm (e1 w)=e1 w:=by
 unfold e1;split
 .rfl
 .have:wd [(w)] 0=(w):=rfl
  simp_all[norm,nl]
def Wds (b:W):Prop:=∀x∈b,0<=x/\x<18446744073709551616
def Rx {b:W} (h:Wds b) (j:Nat):∃w:Nat,wd b j=(w:Int)/\w<18446744073709551616:=by
 by_cases hj:j<b.length
 .have:=h _ (bU hj);rw[CB] at this;exact⟨(wd b j).toNat,by omega,af⟩
 .exact⟨0,by rw[CC af];rfl,af⟩
def aan {a b:W} (B:Wds a) (I:Wds b):(G2 a b&&G2 b a)=decide (norm a=norm b):=by
 rw[iU];simp[aU,pS,G2,cI,gQ];constructor
 .rintro⟨F,G⟩;apply TM;intro j;obtain⟨x,z,q⟩:=Rx B j;obtain⟨y,D,K⟩:=Rx I j;have L:sub x y=true:=by
   by_cases hj:j<a.length
   .have:=F j hj;simp_all[ze]
   .rw[CC af] at z
    have:x=0:=af
    grind[j0]
  have N:sub y x=true:=by
   by_cases hj:j<b.length
   .have:=G j hj;simp_all[ze]
   .rw[CC af] at D
    have:y=0:=af
    grind[j0]
  rw[z,D,sL L N]
 .intro h;have hw:∀j,wd a j=wd b j:=λj=>by rw[<-YZ a,h,YZ]
  constructor
  .intro j _;obtain⟨x,z,q⟩:=Rx B j;simp_all[ze,zf]
  .intro j _;obtain⟨x,z,q⟩:=Rx B j;simp_all[ze,zf]
def aeD {w:Nat} (hw:w<18446744073709551616):Wds (e1 w):=by intro x q;unfold e1 at q;grind
structure Cd (l:List fL) (cs:List Nat):Prop where
 eq:l.map (·.Code)=cs.map e1
 lt:∀c∈cs,c<18446744073709551616
 len:cs.length<=1048576
def Cd.length {l:List fL} {cs:List Nat} (h:Cd l cs):l.length=cs.length:=by have:=aP List.length h.eq;simp_all
def Cd.code {l:List fL} {cs:List Nat} (h:Cd l cs) {i:Nat} (hi:i<l.length):l[i].Code=e1 (cs.getD i 0):=by
 have q:i<cs.length:=by rw[<-h.length];exact hi
 have:=aP (λm=>m[i]?) h.eq;simp only[dA,aM hi,aM q,e9,bg] at this;rw[this,bw,aM q];rfl
def Cd.get {l:List fL} {cs:List Nat} (h:Cd l cs) {i:Nat} (hi:i<cs.length):cs.getD i 0<18446744073709551616:=h.lt _ (lF hi)
def Cd.mem {l:List fL} {cs:List Nat} (h:Cd l cs) {x:fL} (q:x∈l):∃c,c∈cs/\x.Code=e1 c:=by
 have:x.Code∈l.map _:=lP q
 rw[h.eq] at this;grind
def h19 {l:List fL} (q:l.length<=1073741824) (z:∀x∈l,x.Code.length<=1073741824) (n:W):∀(xs:List fL) (i:Nat),l.drop i=xs->
  YC l n i=some (ja (λx=>decide (x.Code=n)) xs i):=by
 intro xs;induction xs with
 |nil=>intro i h;refine k19_3 ?_;rw[bp h];rfl
 |cons x xs D=>
  intro i h;refine k19_3 ?_;have B:x∈l:=by rw[<-nK i l,h];simp
  rw[aT h,aK h,c57 _ _ (z x B),aQ h q,D _ (aI h),ja];grind
theorem c19 {l:List fL} {cs:List Nat} (H:Cd l cs) {code:W} (q:code.length<=1073741824):f19 l code=some (ja (λx=>decide (x.Code=norm code)) l 0):=by refine e19 ?_;rw[c60 _ q,aj];refine h19 (by have:=H.len;rw[H.length];omega) (λx z=> ?_) _ l 0 rfl;obtain⟨c,_,e⟩:=H.mem z;grind[mM]
def ix_fnd:∀(l:List fL) (cs:List Nat) (w i:Nat),l.map (·.Code)=cs.map e1->
  ja (λx=>decide (x.Code=e1 w)) l i=match cs.findIdx? (· ==w) with
   |some j=>((i+j:Nat):Int)
   |none=> -1:=by
 intro l;induction l with
 |nil=>intro cs w i h;cases cs with
  |nil=>rfl
  |cons c cs=>simp at h
 |cons x l D=>intro cs w i h;cases cs with
  |nil=>simp at h
  |cons c cs=>
   simp only[bH,cR] at h;rw[ja,D cs w (i+1) h.2,uU];by_cases e:c=w
   .subst e;simp[h.1]
   .have z:¬(x.Code=e1 w):=by rw[h.1];exact λq=>e (Vl q)
    have B:(c==w)=false:=by simpa using e
    simp only[z,zJ,er,gG,B];cases cs.findIdx? (· ==w) with
    |none=>rfl
    |some j=>
     show(((i+1)+j:Nat):Int)=((i+(j+1):Nat):Int)
     rw[gE,jS 1 j]
theorem ix_fnd0 {l:List fL} {cs:List Nat} (H:Cd l cs) (w:Nat):ja (λx=>decide (x.Code=e1 w)) l 0=HK cs w:=by rw[ix_fnd l cs w 0 H.eq,HK];cases cs.findIdx? (· ==w)<;>simp
def o19 {l:List fL} {cs:List Nat} (H:Cd l cs) (w:Nat):f19 l (e1 w)=some (HK cs w):=by grind[c19,mM,Je,ix_fnd0]
section
variable {l:List fL} {cs:List Nat} (H:Cd l cs) {i j:Nat} (hi:i<cs.length) (hj:j<cs.length)
include H hi hj
theorem o25:f25 l i j=some (sub (cs.getD j 0) (cs.getD i 0)):=by refine e25 ?_;have q:=H.length;rw[cH af,cH af,H.code,H.code,o65 (H.get hj) (H.get hi)];rfl
end
abbrev cast (l:List Nat):List Int:=l.map λn:Nat=>(n:Int)
def Gu {l:List Nat} {i:Nat} {x:Nat} {xs:List Nat} (h:l.drop i=x::xs):(cast l).drop i=(x:Int)::cast xs:=by rw[<-pV,h];rfl
def abc {l:List Nat} {i:Nat} (h:l.drop i=[]):(cast l).drop i=[]:=by rw[<-pV,h];rfl
def IJ (cs:List Nat) (i k m:Nat):Bool:=m==i||m==k|| !sub (cs.getD m 0) (cs.getD k 0)|| !sub (cs.getD i 0) (cs.getD m 0)
section
variable {l:List fL} {cs:List Nat} (H:Cd l cs)
include H
theorem h28b {i k:Nat} (hi:i<cs.length) (K:k<cs.length) {o:List Int} (N:o.length<=1073741824) {r:R28.T}:∀(n m:Nat) (q:Bool),cs.length-m=n->m<=cs.length->
  Iu l i (k+1:Nat) (if(q&&(List.range' m (cs.length-m)).all (IJ cs i k))=true then o++[(k:Int)] else o)=some r->Iv l i k q m o=some r:=by
 have I:=H.len;have P:=H.length;intro n;induction n with
 |zero=>
  intro m q L D h;refine k28_8 ?_
  have:m=cs.length:=af
  subst this;rw[cond_neg aH,bM af];simp only[kD,List.range'_zero,List.all_nil,zx] at h;cases q with
  |true=>rw[au,cC _ N ai af];simpa using h
  |false=>simpa using h
 |succ n B=>
  intro m q L D h;refine k28_8 ?_;have O:List.range' m (cs.length-m)=m::List.range' (m+1) (cs.length-(m+1)):=by rw[show cs.length-m=(cs.length-(m+1))+1 by omega,q7]
  rw[O,lW] at h;have z:m<cs.length:=by omega
  rw[cond_pos aH,bM af];cases q with
  |false=>rw[aA];exact B (m+1) false af af (by simpa using h)
  |true=>
   rw[au];by_cases e1:m=i
   .rw[cond_pos aH];refine B (m+1) true af af ?_
    have:IJ cs i k m=true:=by simp[IJ,e1]
    rw[this,iz] at h;exact h
   .rw[cond_neg aH];by_cases F:m=k
    .rw[cond_pos aH];refine B (m+1) true af af ?_
     have:IJ cs i k m=true:=by simp[IJ,F]
     rw[this,iz] at h;exact h
    .rw[cond_neg aH,o25 H K z,aj];cases G:sub (cs.getD m 0) (cs.getD k 0) with
     |false=>
      rw[fN,au];refine B (m+1) true af af ?_
      have:IJ cs i k m=true:=by simp only[IJ,G];simp
      rw[this,iz] at h;exact h
     |true=>
      rw[dM,aA,o25 H z hi,aj];refine B (m+1) _ af af ?_
      have:IJ cs i k m= !sub (cs.getD i 0) (cs.getD m 0):=by simp only[IJ,G];simp[e1,F]
      rw[this,iz] at h;exact h
def Mv (cs:List Nat) (i:Nat) (k:Nat):Bool:=k !=i&&sub (cs.getD i 0) (cs.getD k 0)&&(List.range cs.length).all (IJ cs i k)
theorem h28a {i:Nat} (hi:i<cs.length):∀(n k:Nat) (q:List Nat),cs.length-k=n->k<=cs.length->q.length<=k->
  Iu l i k (cast q)=some (cast (q++(List.range' k (cs.length-k)).filter (Mv cs i))):=by
 have I:=H.len;have O:=H.length;intro n;induction n with
 |zero=>intro k q G D z;refine k28_3 ?_;rw[cond_neg aH,G];simp
 |succ n B=>
  intro k q G D z;refine k28_3 ?_;have N:List.range' k (cs.length-k)=k::List.range' (k+1) (cs.length-(k+1)):=by rw[show cs.length-k=(cs.length-(k+1))+1 by omega,q7]
  rw[cond_pos aH,bM af,N,nH];by_cases e:k=i
  .rw[cond_pos aH,B (k+1) q af af af]
   have:Mv cs i k=false:=by simp[Mv,e]
   rw[this];rfl
  .rw[cond_neg aH,o25 H af hi,aj];cases F:sub (cs.getD i 0) (cs.getD k 0) with
   |false=>
    rw[fN,au,B (k+1) q af af af]
    have:Mv cs i k=false:=by simp only[Mv,F];simp
    rw[this];rfl
   |true=>
    rw[dM,aA];refine h28b H hi af aH _ 0 true rfl af ?_;have K:Mv cs i k=(List.range cs.length).all (IJ cs i k):=by simp only[Mv,F];simp[e]
    rw[u9,<-zI,iz,<-K];cases L:Mv cs i k with
    |true=>have:=B (k+1) (q++[k]) af af aH;simpa using this
    |false=>have:=B (k+1) q af af af;simpa using this
omit H in
theorem Zp (i:Nat):(List.range cs.length).filter (Mv cs i)=aeh cs i:=by
 unfold aeh UO;rw[EE];apply lI;intro k P;rw[iU];simp only[Mv,aU,cI,gQ,jw,zq,cT,nG,ne_eq,IJ,gx,iV];constructor
 .rintro⟨⟨q,z⟩,B⟩;refine⟨?_,q,z⟩;rintro m ⟨D,F,G⟩ ⟨I,K⟩;rcases B m D with((h|h)|h)|h
  .exact F h
  .exact I h
  .rw[K] at h;cases h
  .rw[G] at h;cases h
 .rintro⟨B,q,z⟩;refine⟨⟨q,z⟩,?_⟩;intro m D;by_cases e1:m=i
  .exact .inl (.inl (.inl e1))
  by_cases L:m=k
  .exact .inl (.inl (.inr L))
  cases N:sub (cs.getD m 0) (cs.getD k 0) with
  |false=>exact .inl (.inr rfl)
  |true=>cases O:sub (cs.getD i 0) (cs.getD m 0) with
   |false=>exact .inr rfl
   |true=>exact absurd ⟨L,N⟩ (B m ⟨D,e1,O⟩)
theorem o28 {i:Nat} (hi:i<cs.length):f28 l i=some (cast (aeh cs i)):=by refine e28 ?_;have:=h28a H hi _ 0 [] rfl af ai;rw[u9,<-zI,Zp] at this;assumption
end
end Go.Proofs.YthphfjcnkinkpaaGreatDoor.cl
namespace Go.AM
abbrev ck:Type:=List UInt8
def SS (l:List ck):Prop:=l.Pairwise λa b=>Op.bytesLess a b=true
def JW {a b:ck} (h:Op.bytesLess a b=true):a≠b:=λe=>by subst e;rw[CE] at h;cases h
def SS.nodup {l:List ck} (h:SS l):l.Nodup:=h.imp λh=>JW h
def qQ (s:ck):List ck->List ck
 |[]=>[s]
 |x::l=>if Op.bytesLess x s=true then x::qQ s l else if x=s then x::l else s::x::l
def Tx {s y:ck}:∀{l:List ck},y∈qQ s l↔y=s\/y∈l:=by intro l;induction l with
 |nil=>simp[qQ]
 |cons x l q=>
  unfold qQ;split
  .simp only[aN,q];exact⟨λh=>h.elim (λh=> .inr (.inl h)) λh=>h.elim .inl λh=> .inr (.inr h),λh=>h.elim (λh=> .inr (.inl h)) λh=>h.elim .inl λh=> .inr (.inr h)⟩
  .split
   .rename_i h;subst h;simp
   .simp
def nj (s:ck):∀l:List ck,(qQ s l).length<=l.length+1:=by intro l;induction l with
 |nil=>simp[qQ]
 |cons x l q=>unfold qQ;split<;>(try split)<;>simp<;>omega
theorem T4 {s:ck}:∀{l:List ck},SS l->SS (qQ s l):=by intro l;induction l with
 |nil=>intro _;simp[qQ,SS]
 |cons x l K=>
  intro h;have z:=dN.1 h;unfold qQ;split
  .rename_i I;refine dN.2 ⟨?_,K z.2⟩;intro y q;rcases Tx.1 q with rfl|q
   .exact I
   .exact z.1 y q
  .split
   .exact h
   .rename_i F G;have B:Op.bytesLess x s=false:=by simpa using F
    have D:=BI x s B G;refine dN.2 ⟨?_,h⟩;intro y q;rcases aN.1 q with rfl|q
    .exact D
    .exact vS _ _ _ D (z.1 y q)
def oJ (l:List ck):List ck:=l.foldl (λo s=>qQ s o) []
def DZ:∀(l o:List ck),SS o->SS (l.foldl (λo s=>qQ s o) o)/\(∀y,y∈l.foldl (λo s=>qQ s o) o↔y∈o\/y∈l)/\(l.foldl (λo s=>qQ s o) o).length<=o.length+l.length:=by intro l;induction l with
 |nil=>intro o h;exact⟨h,λy=>by simp,ai⟩
 |cons x l D=>
  intro o h;obtain⟨q,z,B⟩:=D (qQ x o) (T4 h);refine⟨q,λy=> ?_,?_⟩
  .show y∈List.foldl _ (qQ x o) l↔_;rw[z,Tx,aN];exact⟨λh=>h.elim (λh=>h.elim (λh=> .inr (.inl h)) .inl) λh=> .inr (.inr h),λh=>h.elim (λh=> .inl (.inr h)) λh=>h.elim (λh=> .inl (.inl h)) .inr⟩
  .have:=nj x o;simp only[gb,bz] at B⊢;omega
theorem mh (l:List ck):SS (oJ l):=(DZ l [] (by simp[SS])).1
theorem gw {l:List ck} {y:ck}:y∈oJ l↔y∈l:=by have:=(DZ l [] (by simp[SS])).2.1 y;simpa[oJ] using this
def qo (l:List ck):(oJ l).length<=l.length:=by have:=(DZ l [] (by simp[SS])).2.2;simpa[oJ] using this
theorem SS.ext:∀{l m:List ck},SS l->SS m->(∀y,y∈l↔y∈m)->l=m:=by intro l;induction l with
 |nil=>intro m _ _ h;cases m with
  |nil=>rfl
  |cons y m=>exact absurd ((h y).2 ai) ai
 |cons x l R=>intro m N O h;cases m with
  |nil=>exact absurd ((h x).1 ai) ai
  |cons y m=>
   have D:=dN.1 N;have F:=dN.1 O;have G:x=y:=by
    rcases aN.1 ((h x).1 ai) with e|P
    .exact e
    .rcases aN.1 ((h y).2 ai) with e|Q
     .exact e.symm
     .have L:=F.1 x P;have K:=D.1 y Q;rw[BH L] at K;cases K
   subst G;congr 1;refine R D.2 F.2 λz=> ?_
   have I:=h z;simp only[aN] at I;constructor
   .intro q;rcases I.1 (.inr q) with e|B
    .subst e;exact absurd rfl (JW (D.1 z q))
    .exact B
   .intro B;rcases I.2 (.inr B) with e|q
    .subst e;exact absurd rfl (JW (F.1 z B))
    .exact q
def jy {I:Type}:∀{l m:List I},l.Nodup->(∀x∈l,x∈m)->l.length<=m.length:=by intro l;induction l with
 |nil=>intro m _ _;simp
 |cons x l G=>
  intro m F B;have q:=gj.1 F;obtain⟨a,b,rfl⟩:=Ez (B x ai)
  have:=G (m:=a++b) q.2 (λy D=>by
   have z:=B y (by simp[D]);simp only[bu,aN] at z⊢;rcases z with h|h|h
   .exact .inl h
   .subst h;exact absurd D q.1
   .exact .inr h)
  simp only[bz,bQ] at this⊢;omega
def Wm {K:Type} {l m:List K} (D:l.Nodup) (G:∀x∈l,x∈m) (z:m.length<=l.length):∀x∈m,x∈l:=by
 intro x I;apply ff;intro F;have B:(x::l).Nodup:=gj.2 ⟨F,D⟩
 have:=jy (m:=m) B (λy q=>by
  rcases aN.1 q with rfl|q
  .exact I
  .exact G y q)
 simp at this;omega
def mo (o:List ck) (l:List ck):List ck:=l.foldl (λo y=>if y∈o then o else o++[y]) o
def RO:∀(l o:List ck),(∀y,y∈mo o l↔y∈o\/y∈l)/\(o.Nodup->(mo o l).Nodup)/\∃e,mo o l=o++e:=by intro l;induction l with
 |nil=>intro o;exact⟨λy=>by simp[mo],λh=>h,[],by simp[mo]⟩
 |cons x l G=>
  intro o;by_cases q:x∈o
  .obtain⟨z,B,D⟩:=G o;have e:mo o (x::l)=mo o l:=by simp[mo,q]
   rw[e];refine⟨λy=> ?_,B,D⟩;rw[z,aN];exact⟨λh=>h.elim .inl λh=> .inr (.inr h),λh=>h.elim .inl λh=>h.elim (λh=> .inl (h▸q)) .inr⟩
  .obtain⟨z,B,I,D⟩:=G (o++[x]);have e:mo o (x::l)=mo (o++[x]) l:=by simp[mo,q]
   rw[e];refine⟨λy=> ?_,λh=>B ?_,x::I,by rw[D];simp⟩
   .rw[z,aN,bu,cz];exact⟨λh=>h.elim (λh=>h.elim .inl λh=> .inr (.inl h)) λh=> .inr (.inr h),λh=>h.elim (λh=> .inl (.inl h)) λh=>h.elim (λh=> .inl (.inr h)) .inr⟩
   .rw[jq];exact⟨h,by simp,λa K b F=>by simp only[cz] at F;subst F;exact λe=>q (e▸K)⟩
inductive kO (next:ck->List ck) (x:ck):ck->Prop
 |refl:kO next x x
 |step {y z:ck}:kO next x y->z∈next y->kO next x z
theorem kO.trans {next:ck->List ck} {x y z:ck} (q:kO next x y) (B:kO next y z):kO next x z:=by induction B with
 |refl=>exact q
 |step _ D F=>exact .step F D
def search {R:Type} {next:ck->List ck} {U:List ck} {K:ck} (h0:K∈U) (hU:∀x∈U,∀y∈next x,y∈U)
  {outer:Nat->List ck->Option R} {fin:List ck->Option R}
  (G:∀i o,o.length<=U.length->o.length<=i->∀r,fin o=some r->outer i o=some r)
  (O:∀i o x,o.length<=U.length->(mo o (next x)).length<=U.length->o[i]? =some x->x∈U->∀r,outer (i+1) (mo o (next x))=some r->outer i o=some r):
  ∃o:List ck,o.Nodup/\(∀y,y∈o↔kO next K y)/\o.length<=U.length/\∀r,fin o=some r->outer 0 [K]=some r:=by
 have key:∀(n i:Nat) (o:List ck),U.length-i=n->o.Nodup->K∈o->(∀y∈o,y∈U/\kO next K y)->(∀j y,j<i->o[j]? =some y->∀z∈next y,z∈o)->
   ∃S:List ck,S.Nodup/\(∀y,y∈S↔kO next K y)/\S.length<=U.length/\∀r,fin S=some r->outer i o=some r:=by
  intro n;induction n with
  |zero=>
   intro i o hn L hx N hc;have q:=jy L λy B=>(N y B).1
   refine⟨o,L,λy=>⟨λB=>(N y B).2,λF=> ?_⟩,q,λr F=>G i o q af r F⟩;induction F with
   |refl=>exact hx
   |step _ Q ih=>obtain⟨j,hj,e⟩:=jo.1 ih;exact hc j _ af (by rw[aM hj,e]) _ Q
  |succ n ih=>
   intro i o hn L hx N hc;have q:=jy L λy B=>(N y B).1
   by_cases hi:i<o.length
   .have I:o[i]? =some o[i]:=aM hi;have P:=N o[i] (bU hi);obtain⟨a1,a2,e,a3⟩:=RO (next o[i]) o;have V:∀y∈mo o (next o[i]),y∈U/\kO next K y:=λy B=>by
     rcases(a1 y).1 B with h|h
     .exact N y h
     .exact⟨hU _ P.1 y h, .step P.2 h⟩
    obtain⟨S,r1,r2,r3,r4⟩:=ih (i+1) (mo o (next o[i])) af (a2 L) ((a1 _).2 (.inl hx)) V (λj y hj B z Q=>by
     by_cases hji:j<o.length
     .have D:o[j]? =some y:=by
       rw[a3,eU hji] at B;exact B
      by_cases e2:j=i
      .subst e2;rw[I] at D;injection D with D;subst D;exact(a1 z).2 (.inr Q)
      .exact(a1 z).2 (.inl (hc j y af D z Q))
     .omega)
    exact⟨S,r1,r2,r3,λr F=>O i o _ q (jy (a2 L) λy B=>(V y B).1) I P.1 r (r4 r F)⟩
   .refine⟨o,L,λy=>⟨λB=>(N y B).2,λF=> ?_⟩,q,λr F=>G i o q af r F⟩;induction F with
    |refl=>exact hx
    |step _ Q ih=>obtain⟨j,hj,e⟩:=jo.1 ih;exact hc j _ af (by rw[aM hj,e]) _ Q
 exact key _ 0 [K] rfl ai ai (λy B=>by simp only[cz] at B;subst B;exact⟨h0, .refl⟩) (λj y hj=>by omega)
end Go.AM
namespace Go.Proofs.YthphfjcnkinkpaaGreatDoor.cl
open Go Go.AM
def h37 (l:List ck) (s:ck) (q:l.length<=1073741824):∀(xs:List ck) (i:Nat),l.drop i=xs->YD l s i=some (decide (s∈xs)):=by intro xs;induction xs with
 |nil=>grind[k37_2,bp]
 |cons x xs z=>intro i h;refine k37_2 ?_;rw[aT h,aK h,aQ h q,z _ (aI h)];grind
def c37 (l:List ck) (s:ck) (q:l.length<=1073741824):f37 l s=some (decide (s∈l)):=e37 (h37 l s q l 0 rfl)
def h98 (l:List ck) (s:ck) (F:l.length<=1073741824):∀(xs:List ck) (i:Nat),l.drop i=xs->i<=l.length->YO l s i []=some (l.take i++qQ s xs):=by intro xs;induction xs with
 |nil=>
  intro i h q;refine k98_3 ?_;have D:=mI h;obtain rfl:i=l.length:=by omega
  rw[bp h,aA,aA,EX (aR _),bW aH,bW aH,EX (aR _),bW aH];simp[qQ]
 |cons x xs I=>
  intro i h q;refine k98_3 ?_;have G:=dY h;have z:l.take (i+1)=l.take i++[x]:=by rw[c7,cr h];rfl
  have B:(l.take l.length).drop i=x::xs:=by simp_all
  rw[aT h,au,aK h,au,aK h,aQ h F,I (i+1) (aI h) af,qQ];cases K:Op.bytesLess x s with
  |true=>simp[z]
  |false=>
   rw[aA];by_cases e:x=s
   .subst e;rw[cond_pos ai];simp[aB,er,gG,<-h,nK]
   .rw[EX af,cC _ ai aH af,cC _ aH ai af,EX af,cC _ aH aH af];grind
def c98 (l:List ck) (s:ck) (q:l.length<=1073741824):f98 l s=some (qQ s l):=e98 (by
 have:=h98 l s q l 0 rfl af
 assumption)
def h111 (d:List aC) (s:ck) (q:d.length<=1073741824):∀(xs:List aC) (i:Nat),d.drop i=xs->Qo d s i=some (ja (λt=>t.Name==s) xs i):=by intro xs;induction xs with
 |nil=>intro i h;refine acn ?_;rw[bp h];rfl
 |cons x xs z=>intro i h;refine acn ?_;rw[aT h,aK h,aQ h q,z _ (aI h),ja];grind
def fd (d:List aC) (s:ck):Int:=ja (λt=>t.Name==s) d 0
theorem Zf (d:List aC) (s:ck) (q:d.length<=1073741824):f111 d s=some (fd d s):=e111 (h111 d s q d 0 rfl)
abbrev kz (d:List aC):List ck:=d.map (·.Name)
def acg {q:Type} (p:q->Bool):∀(xs:List q) (i:Nat),ja p xs i<0↔∀x∈xs,p x=false:=by intro xs;induction xs with
 |nil=>simp[ja]
 |cons x xs z=>grind[ja]
def XM {q:Type} (p:q->Bool):∀(xs:List q) (i:Nat),(∃x∈xs,p x=true)->∃j,∃h:j<xs.length,ja p xs i=((i+j:Nat):Int)/\p xs[j]=true/\∀k (z:k<j),p (xs[k]'(by omega))=false:=by intro xs;induction xs with
 |nil=>simp
 |cons x xs B=>intro i h;rw[ja];cases G:p x with
  |true=>exact⟨0,by simp,by simp,by assumption,λk z=>by omega⟩
  |false=>
   obtain⟨j,hj,e,D,F⟩:=B (i+1) (by simp_all);refine⟨j+1,by simp;omega,?_,by assumption,?_⟩
   .grind
   grind
def OO {d:List aC} {s:ck}:fd d s<0↔s∉kz d:=by simp_all[fd,acg]
def I1 {d:List aC} {s:ck} (h:s∈kz d):∃j,∃hj:j<d.length,fd d s=(j:Int)/\d[j].Name=s/\∀k (F:k<j),(d[k]'(by omega)).Name≠s:=by obtain⟨t,q,e⟩:=aD.1 h;obtain⟨j,hj,z,B,D⟩:=XM (λt:aC=>t.Name==s) d 0 ⟨t,q,by simp_all⟩;grind[fd]
def h52 (d:List aC) (q:d.length<=1073741824):∀(xs:List aC) (i:Nat) (o:List ck),d.drop i=xs->o.length<=i->YE d o i=some ((xs.map (·.Name)).foldl (λo s=>qQ s o) o):=by intro xs;induction xs with
 |nil=>grind[k52_3,bp]
 |cons x xs z=>intro i o h B;refine k52_3 ?_;have:=dY h;have:=nj x.Name o;rw[aT h,aK h,aQ h q,c98 _ _ af,aj,z _ _ (aI h) af];rfl
def c52 (d:List aC) (q:d.length<=1073741824):f52 d=some (oJ (kz d)):=e52 (h52 d q d 0 _ rfl ai)
def UZ (d:List aC):Bool:=decide (d.length>256)||d.any λt=>decide (t.dS.length>256)||decide (t.bD.length>256)
def h70 (d:List aC) (q:d.length<=1073741824):∀(xs:List aC) (i:Nat),d.drop i=xs->YL d i=some (if(xs.any λt=>decide (t.dS.length>256)||decide (t.bD.length>256))=true then 7 else 0):=by intro xs;induction xs with
 |nil=>grind[k70_4,bp]
 |cons x xs z=>intro i h;refine k70_4 ?_;rw[aT h,aK h,aK h,aQ h q,z _ (aI h)];grind
def c70 (d:List aC):f70 d=some (if UZ d=true then 7 else 0):=by
 refine e70 ?_;by_cases h:d.length>256
 .rw[cond_pos aH];simp[UZ,h]
 .rw[cond_neg aH];have e:decide (d.length>256)=false:=by simpa using h
  rw[UZ,e];exact h70 d af d 0 rfl
def oW (c:UInt8):Bool:=decide (48<=c.toNat)&&decide (c.toNat<=57)
def D5 (c:UInt8):Bool:=decide (97<=c.toNat)&&decide (c.toNat<=122)
def isName (s:ck):Bool:=decide (1<=s.length)&&decide (s.length<=32)&& !oW (s.getD 0 0)&& !(s.getD 0 0).toNat==45&&s.all λc=>oW c||c.toNat==45||D5 c
def c159 (c:UInt8):f159 (c.toNat:Int)=some (oW c):=by
 refine e159 ?_;by_cases h:48<=c.toNat
 .rw[cond_pos aH];simp[oW];congr 1;grind
 .rw[cond_neg aH];simp[oW,h]
def c167 (c:UInt8):f167 (c.toNat:Int)=some (D5 c):=by
 refine e167 ?_;by_cases h:97<=c.toNat
 .rw[cond_pos aH];simp[D5];congr 1;grind
 .rw[cond_neg aH];simp[D5,h]
def c160 (c:UInt8):f160 (c.toNat:Int) false=some (oW c||c.toNat==45||D5 c):=by refine e160 ?_;rw[c159,c167];cases oW c with
 |true=>rfl
 |false=>
  by_cases h:c.toNat=45
  .simp_all
  grind
def h140 (s:ck) (q:s.length<=1073741824):∀(xs:ck) (i:Nat),s.drop i=xs->LJ s false i=some (xs.all λc=>oW c||c.toNat==45||D5 c):=by intro xs;induction xs with
 |nil=>grind[O8,bp]
 |cons x xs z=>intro i h;refine O8 ?_;rw[aT h,aK h,c160,aQ h q,z _ (aI h)];grind
def JY (s:ck):f110 s=some (isName s):=by
 refine e110 ?_
 have:f140 s false=some (isName s):=by
  refine e140 ?_;by_cases B:1<=s.length
  .rw[cond_neg aH];by_cases z:s.length<=32
   .rw[show(0:Int)=((0:Nat)) from rfl,cH af,c159,cH af,h140 s af s 0 rfl];have q:s.getD 0 0=s[0]:=by rw[bw,aM _];rfl
    unfold isName;rw[q];cases oW _ with
    |true=>simp
    |false=>
     by_cases D:s[0].toNat=45
     .simp_all
     grind
   .rw[cond_pos aH];simp[isName,z]
  .simp_all[isName]
 simp_all
def xG:List ck->List aC->Int
 |_,[]=>0
 |q,t::z=>if isName t.Name=false then 1 else if t.Name∈q then 4 else xG (q++[t.Name]) z
def fd_lt {d:List aC} {i:Nat} {t:aC} {G:List aC} (h:d.drop i=t::G):fd d t.Name<(i:Int)↔t.Name∈(d.take i).map (·.Name):=by
 have q :=cr h;obtain⟨j,hj,e,z,K⟩:=I1 (lP (aV q));constructor
 .intro B;refine aD.2 ⟨_,?_,z⟩;rw[vc];grind
 .intro D;obtain⟨u,F,I⟩:=aD.1 D;rw[vc] at F;grind
def h71 (d:List aC) (q:d.length<=1073741824):∀(xs:List aC) (i:Nat),d.drop i=xs->YM d i=some (xG ((d.take i).map (·.Name)) xs):=by intro xs;induction xs with
 |nil=>intro i h;refine k71_2 ?_;rw[bp h];rfl
 |cons x xs z=>
  intro i h;refine k71_2 ?_;have B:d.take (i+1)=d.take i++[x]:=by rw[c7,cr h];rfl
  rw[aT h,aK h,JY,aK h,Zf d _ q,aQ h q,z _ (aI h),xG];cases F:isName _ with
  |false=>rfl
  |true=>
   by_cases D:x.Name∈(d.take i).map (·.Name)
   .simp_all[fd_lt]
   simp_all[fd_lt]
def c71 (d:List aC) (q:d.length<=1073741824):f71 d=some (xG [] d):=e71 (h71 d q d 0 rfl)
def spK (z:List ck):List ck->List ck->Int
 |_,[]=>0
 |q,s::ss=>if s∉z then 5 else if s∈q then 4 else spK z (q++[s]) ss
def zb (q:List ck):List aC->Int
 |[]=>0
 |t::z=>if spK q [] t.dS=0 then zb q z else spK q [] t.dS
def h72b (d:List aC) (z:d.length<=1073741824) (i:Nat) (hi:i<d.length) (l:List ck) (q:l.length<=1073741824) {r:Int} (D:Ur d (i+1:Nat)=some r):∀(xs:List ck) (k:Nat),l.drop k=xs->
  YN d i l k=some (if spK (kz d) (l.take k) xs=0 then r else spK (kz d) (l.take k) xs):=by
 intro xs;induction xs with
 |nil=>intro k h;refine k72_6 ?_;rw[bp h,aA,bM af,D];rfl
 |cons x xs F=>
  intro k h;refine k72_6 ?_;have B:=dY h;rw[aT h,au,aK h,Zf d _ z,aj,spK];by_cases G:x∈kz d
  .rw[cond_neg (by simp_all[OO]),EX af,aK h,c37 _ _ aH,aQ h q,F _ (aI h)];have e:List.drop 0 (List.take (Int.toNat (k)) l)=l.take k:=ai;grind
  simp_all[OO]
def h72 (d:List aC) (q:d.length<=1073741824) (z:∀t∈d,t.dS.length<=1073741824):∀(xs:List aC) (i:Nat),d.drop i=xs->Ur d i=some (zb (kz d) xs):=by intro xs;induction xs with
 |nil=>intro i h;refine k72_2 ?_;rw[bp h];rfl
 |cons x xs B=>intro i h;refine k72_2 ?_;rw[aT h,au,aK h];exact h72b d q i (dY h) _ (z x (aV (cr h))) (B _ (aI h)) _ 0 rfl
def c72 (d:List aC) (q:d.length<=1073741824) (z:∀t∈d,t.dS.length<=1073741824):f72 d=some (zb (kz d) d):=e72 (h72 d q z d 0 rfl)
def KP:∀(d:List aC) (q:List ck),xG q d=0↔(∀t∈d,isName t.Name=true)/\(kz d).Nodup/\∀t∈d,t.Name∉q:=by intro d;induction d with
 |nil=>simp[xG]
 |cons t d z=>unfold xG;grind
theorem aef (z:List ck):∀(l q:List ck),spK z q l=0↔(∀s∈l,s∈z)/\l.Nodup/\∀s∈l,s∉q:=by intro l;induction l with
 |nil=>simp[spK]
 |cons s l B=>unfold spK;grind
theorem LA (q:List ck):∀(d:List aC),zb q d=0↔∀t∈d,(∀s∈t.dS,s∈q)/\t.dS.Nodup:=by intro d;induction d with
 |nil=>simp[zb]
 |cons t d z=>unfold zb;have:=aef q t.dS [];grind
