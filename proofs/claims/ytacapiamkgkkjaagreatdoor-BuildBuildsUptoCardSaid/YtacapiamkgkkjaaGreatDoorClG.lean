/- The Closure laws, plain. -/
import Derived.Test.YtacapiamkgkkjaaGreatDoorAmP
import Derived.Test.YtacapiamkgkkjaaGreatDoorClF
import Derived.Test.YtacapiamkgkkjaaGreatDoorClO
set_option linter.all false
open Go.IntKind (wrap)
open BitVec (ofInt)
namespace Go.Proofs.YtacapiamkgkkjaaGreatDoor.cl
def sub (a b:Nat):Bool:=a&&&b==a
def Xh {a b:Nat}:sub a b=true↔a&&&b=a:=by simp[sub]
theorem kA {a b:Nat}:sub a b=true↔∀i,a.testBit i=true->b.testBit i=true:=by
 rw[Xh];constructor
 .intro h i hi;have:=aR (λx=>x.testBit i) h;simp only[lT,hi,gq] at this;exact this
 .intro h;apply uJ;intro i;rw[lT];cases hi:a.testBit i with
  |false=>rfl
  |true=>rw[h i hi];rfl
def yp (a:Nat):sub a a=true:=kA.2 λ_ h=>h
def yq {a b c:Nat} (q:sub a b=true) (z:sub b c=true):sub a c=true:=kA.2 λi h=>kA.1 z i (kA.1 q i h)
def su {a b:Nat} (q:sub a b=true) (z:sub b a=true):a=b:=by apply uJ;intro i;rw[iF];exact⟨kA.1 q i,kA.1 z i⟩
def Fa (a b:Nat):sub (a&&&b) a=true:=kA.2 λi h=>by rw[lT,aK] at h;exact h.1
def LZ (a b:Nat):sub (a&&&b) b=true:=kA.2 λi h=>by rw[lT,aK] at h;exact h.2
def Xg {a b c:Nat} (q:sub a b=true) (z:sub a c=true):sub a (b&&&c)=true:=kA.2 λi h=>by rw[lT,kA.1 q i h,kA.1 z i h];rfl
def GY (cs:List Nat) (w:Nat):Int:=match cs.findIdx? (· ==w) with
 |some i=>(i:Int)
 |none=> -1
def V1 {cs:List Nat} {w:Nat} (h:w∉cs):GY cs w= -1:=by
 have:cs.findIdx? (· ==w)=none:=by rw[DU];intro x q;simp;intro e;subst e;exact h q
 simp[GY,this]
def NR {cs:List Nat} {w:Nat} (h:w∈cs):∃i,i<cs.length/\cs.getD i 0=w/\GY cs w=(i:Int):=by cases e:cs.findIdx? (· ==w) with
 |none=>rw[DU] at e;have:=e w h;simp at this
 |some i=>
  rw[yI] at e;obtain⟨hi,q,_⟩:=e;refine⟨i,hi,?_,?_⟩
  .rw[bq,aN hi];simpa using q
  .have z:cs.findIdx? (· ==w)=some i:=by
    rw[yI];exact⟨hi,q,by assumption⟩
   simp[GY,z]
def kW {cs:List Nat} {i:Nat} (h:i<cs.length):cs.getD i 0∈cs:=by rw[bq,aN h];exact cG h
def getD_inj {cs:List Nat} (nd:cs.Nodup) {i j:Nat} (hi:i<cs.length) (hj:j<cs.length) (h:cs.getD i 0=cs.getD j 0):i=j:=by rw[bq,bq,aN hi,aN hj] at h;exact(rK nd).1 h
structure Zl (cs:List Nat):Prop where
 nd:cs.Nodup
 nz:∀c∈cs,c≠0
 cl:∀a∈cs,∀b∈cs,a&&&b≠0->a&&&b∈cs
 top:∀c∈cs,sub c (cs.getD 0 0)=true
 pos:0<cs.length
 LX:∀i j,i<cs.length->j<cs.length->sub (cs.getD j 0) (cs.getD i 0)=true->i<=j
def Tr (cs:List Nat) (i:Nat):List Nat:=(List.range cs.length).filter λk=>k !=i&&sub (cs.getD i 0) (cs.getD k 0)
def acO (cs:List Nat) (i:Nat):List Nat:=(Tr cs i).filter λk=> !(Tr cs i).any λm=>m !=k&&sub (cs.getD m 0) (cs.getD k 0)
end Go.Proofs.YtacapiamkgkkjaaGreatDoor.cl
namespace Go.Proofs.YtacapiamkgkkjaaGreatDoor.cl
open Go Go.AM
abbrev W:=List Int
def wd (b:W) (i:Nat):Int:=b.getD i 0
def nl (b:W):Nat->Nat
 |0=>0
 |n+1=>if wd b n=0 then nl b n else n+1
def norm (b:W):W:=b.take (nl b b.length)
def GH (x y:Int):Int:=wrap .u64 ((ofInt (IntKind.bits .u64) x&&&ofInt (IntKind.bits .u64) y).toNat:Int)
def or64 (x y:Int):Int:=wrap .u64 ((ofInt (IntKind.bits .u64) x|||ofInt (IntKind.bits .u64) y).toNat:Int)
def ym (x y:Int):Int:=wrap .u64 ((ofInt (IntKind.bits .u64) x&&& ~~~ofInt (IntKind.bits .u64) y).toNat:Int)
theorem ach (b:W):∀n,nl b n<=n
 |0=>aW _
 |n+1=>by unfold nl;split;exact Nat.le_succ_of_le (ach b n);exact aW _
def BP {b:W} {i:Nat} (h:i<b.length):b[i]=wd b i:=by simp[wd,bq,aN h]
theorem BQ {b:W} {i:Nat} (h:b.length<=i):wd b i=0:=by simp[wd,bq,gu h]
def c106 (b:W) (i:Nat):f106 b i=some (wd b i):=by
 refine e106 ?_;by_cases h:i<b.length
 .rw[cond_pos aH,cQ h,BP h]
 .rw[cond_neg aH,BQ af]
def c107 (b:W) (i:Nat):f107 b i=some (wd b i):=by
 refine e107 ?_;by_cases h:i<b.length
 .rw[cond_pos aH,cQ h,BP h]
 .rw[cond_neg aH,BQ af]
def h68 (b:W) (B:b.length<=1073741824):∀(n:Nat),n<=b.length->Xr b n=some (b.take (nl b n)):=by intro n;induction n with
 |zero=>intro q;refine k68_2 ?_;rw[cond_neg ai,bU ai];simp[nl]
 |succ n z=>
  intro q;refine k68_2 ?_;rw[cond_pos ai,oA af,cQ af,BP];by_cases h:wd b n=0
  .rw[cond_pos (by simpa using h),z af];simp[nl,h]
  .rw[cond_neg (by simpa using h),bU aH]
   have:nl b (n+1)=n+1:=by simp[nl,h]
   simp[this]
def c68 (b:W) (q:b.length<=1073741824):f68 b=some (norm b):=e68 (h68 b q _ (aW _))
def h60 (b:W) (B:b.length<=1073741824):∀(n:Nat),n<=b.length->Xo b n=some (b.take (nl b n)):=by intro n;induction n with
 |zero=>intro q;refine k60_2 ?_;rw[cond_neg ai,bU ai,bU ai];simp[nl]
 |succ n z=>
  intro q;refine k60_2 ?_;rw[cond_pos ai,oA af,cQ af,BP];by_cases h:wd b n=0
  .rw[cond_pos (by simpa using h),z af];simp[nl,h]
  .rw[cond_neg (by simpa using h),bU aH,bU aH]
   have:nl b (n+1)=n+1:=by simp[nl,h]
   simp[this]
def c60 (b:W) (q:b.length<=1073741824):f60 b=some (norm b):=e60 (h60 b q _ (aW _))
def Fu (n:Nat) (f:Nat->Int):W:=(List.range n).map f
theorem S3 (n:Nat) (f:Nat->Int):Fu (n+1) f=Fu n f++[f n]:=by simp[Fu,kL]
def sS (n:Nat) (f:Nat->Int):(Fu n f).length=n:=by simp[Fu]
def ac8 (n:Nat) (f:Nat->Int) (i:Nat):wd (Fu n f) i=if i<n then f i else 0:=by by_cases h:i<n<;>simp[wd,Fu,bq,dP,uH,h]
def h61 (a b:W) (z:a.length<=1073741824):∀(n i:Nat),a.length-i=n->i<=a.length->
  Xp a b i (Fu i λj=>GH (wd a j) (wd b j))=some (norm (Fu a.length λj=>GH (wd a j) (wd b j))):=by
 intro n;induction n with
 |zero=>
  intro i hi q
  have:i=a.length:=af
  subst this;refine k61_3 ?_;rw[cond_neg ai,c60 _ (by rw[sS];exact z)];rfl
 |succ n B=>intro i hi q;refine k61_3 ?_;rw[cond_pos aH,cQ af,c106,ak,cH _ (by rw[sS];omega) ai af,bQ af,BP];have:=B (i+1) af af;rw[S3] at this;exact this
theorem c61 (a b:W) (q:a.length<=1073741824):f61 a b=some (norm (Fu a.length λj=>GH (wd a j) (wd b j))):=
 e61 (h61 a b q _ 0 rfl (c4 _))
def h108 (a b:W) (z:a.length<=1073741824):∀(n i:Nat),a.length-i=n->i<=a.length->
  Pe a b i (Fu i λj=>ym (wd a j) (wd b j))=some (norm (Fu a.length λj=>ym (wd a j) (wd b j))):=by
 intro n;induction n with
 |zero=>
  intro i hi q
  have:i=a.length:=af
  subst this;refine aaQ ?_;rw[cond_neg ai,c60 _ (by rw[sS];exact z)];rfl
 |succ n B=>intro i hi q;refine aaQ ?_;rw[cond_pos aH,cQ af,c106,ak,cH _ (by rw[sS];omega) ai af,bQ af,BP];have:=B (i+1) af af;rw[S3] at this;exact this
def c108 (a b:W) (q:a.length<=1073741824):f108 a b=some (norm (Fu a.length λj=>ym (wd a j) (wd b j))):=
 e108 (h108 a b q _ 0 rfl (c4 _))
def minI (x y:Nat):(if(y:Int)<(x:Int) then(y:Int) else(x:Int))=((min x y:Nat):Int):=by split<;>omega
def HK (n i:Nat) (f:Nat->Int):W:=Fu n λj=>if j<i then f j else 0
def Yi (n:Nat) (f:Nat->Int):HK n 0 f=List.replicate n 0:=by apply nH<;>simp[HK,Fu]
def Yh (n:Nat) (f:Nat->Int):HK n n f=Fu n f:=by
 apply nH
 .simp[HK,Fu]
 .intro j q z;simp[HK,Fu] at q⊢;intro h;omega
def GZ (n i:Nat) (f:Nat->Int):(HK n i f).length=n:=by simp[HK,Fu]
def aaj (n i:Nat) (f:Nat->Int) (h:i<n):(HK n i f).set i (f i)=HK n (i+1) f:=by
 apply nH
 .simp[HK,Fu]
 .intro j z B;simp only[HK,Fu,List.getElem_set,kM,DV];by_cases e:i=j
  .subst e;simp
  .simp only[e,eF];by_cases q:j<i
   .simp[q,Nat.lt_succ_of_lt q]
   .have:¬j<i+1:=af
    simp[q,this]
def h29 (a b:W) (m:Nat) (z:m<=1073741824) (D:m<=a.length) (F:m<=b.length):∀(n i:Nat),m-i=n->i<=m->
  SU a b m i (HK m i λj=>GH (wd a j) (wd b j))=some (norm (Fu m λj=>GH (wd a j) (wd b j))):=by
 intro n;induction n with
 |zero=>
  intro i hi q
  have:i=m:=af
  subst this;refine k29_3 ?_;rw[cond_neg ai,Yh,c68 _ (by rw[sS];exact z)];rfl
 |succ n B=>intro i hi q;refine k29_3 ?_;rw[cond_pos aH,cQ af,cQ af,AX (by rw[GZ];omega),aV,u9 (by rw[GZ];omega),bQ af,BP,BP];have:=B (i+1) af af;rw[<-aaj m i _ af] at this;exact this
def c29 (a b:W) (q:a.length<=1073741824) (z:b.length<=1073741824):f29 a b=some (norm (Fu (min a.length b.length) λj=>GH (wd a j) (wd b j))):=by refine e29 ?_;simp only[minI,aV,rJ];rw[bU af];have:=h29 a b (min a.length b.length) af af af _ 0 rfl (c4 _);rw[Yi] at this;exact this
def Gi (a b:W):Bool:=(List.range a.length).all λj=>ym (wd a j) (wd b j)==0
def tO (a b:W) (i:Nat):Bool:=(List.range' i (a.length-i)).all λj=>ym (wd a j) (wd b j)==0
def Pb (a b:W) (i:Nat) (h:a.length<=i):tO a b i=true:=by
 have:a.length-i=0:=af
 simp[tO,this]
def L0 (a b:W) (i:Nat) (h:i<a.length):tO a b i=(ym (wd a i) (wd b i)==0&&tO a b (i+1)):=by
 have:a.length-i=(a.length-(i+1))+1:=af
 rw[tO,this,qX,gH];rfl
def h63 (a b:W) (B:a.length<=1073741824):∀(n i:Nat),a.length-i=n->i<=a.length->Xq b a a.length i=some (tO a b i):=by intro n;induction n with
 |zero=>intro i hi q;refine k63_2 ?_;rw[cond_neg aH,Pb a b i af]
 |succ n z=>
  intro i hi q;refine k63_2 ?_;rw[cond_pos aH,cQ af,c107,ak,L0 a b i af,BP];by_cases h:ym (wd a i) (wd b i)=0
  .rw[cond_neg (by simpa[ym] using h),bQ af,z (i+1) af af];simp[h]
  .rw[cond_pos (by simpa[ym] using h)];simp only[show(ym (wd a i) (wd b i)==0)=false by simpa using h,pX]
theorem c63 (a b:W) (q:a.length<=1073741824):f63 a b=some (Gi a b):=by refine e63 ?_;rw[show Gi a b=tO a b 0 by simp[Gi,tO,yM]];exact h63 a b q _ 0 rfl (c4 _)
def WS (b:W):∀n,nl b n=0↔∀j,j<n->wd b j=0
 |0=>by simp[nl]
 |n+1=>by
  unfold nl;split
  .rename_i h;rw[WS b n];constructor
   .intro q j hj;by_cases e:j=n
    .subst e;exact h
    .exact q j af
   .intro q j hj;exact q j af
  .rename_i h;constructor
   .intro q;omega
   .intro q;exact absurd (q n af) h
def ack (b:W):(norm b).length=0↔∀j,j<b.length->wd b j=0:=by rw[norm,fC,wC (ach b _),WS]
theorem c65 (a b:W) (q:a.length<=1073741824):f65 a b=some (Gi a b):=by
 refine e65 ?_;rw[c108 a b q,ak];congr 1;rw[iF];have e:(((norm (Fu a.length λj=>ym (wd a j) (wd b j))).length:Int)==0)=((norm (Fu a.length λj=>ym (wd a j) (wd b j))).length==0):=by rw[iF];simp
 rw[e];simp only[gT,ack,sS,Gi,cF,gp];constructor
 .intro h j hj;have:=h j hj;rwa[ac8,aB hj] at this
 .intro h j hj;rw[ac8,aB hj];exact h j hj
def c102 (a b:W) (q:a.length<=1073741824) (z:b.length<=1073741824):f102 a b=some (Gi a b&&Gi b a):=by refine e102 ?_;rw[c65 a b q,c65 b a z];cases Gi a b<;>rfl
def h57 (a b:W) (z:a.length<=1073741824) (B:a.length=b.length):∀(xs:W) (i:Nat),a.drop i=xs->Xn a b i=some (decide (a.drop i=b.drop i)):=by intro xs;induction xs with
 |nil=>intro i h;refine k57_4 ?_;have:=mh h;rw[bp h,au,h,nM af];simp
 |cons x xs F=>
  intro i h;refine k57_4 ?_;have D:=eC h;rw[aT h,aj,aP h,cQ af,aQ h z,h,jg (l:=b) (i:=i) af];have e:=F (i+1) (aJ h);rw[aJ h] at e;by_cases q:x=b[i]
  .rw[cond_neg (by simpa using q),e];simp only[q,cg,cR]
  .rw[cond_pos (by simpa using q)];simp only[cg,q,false_and,uE]
def c57 (a b:W) (q:a.length<=1073741824):f57 a b=some (decide (a=b)):=by
 refine e57 ?_;by_cases h:a.length=b.length
 .rw[cond_neg aH];exact h57 a b q h _ 0 rfl
 .rw[cond_pos aH]
  have:a≠b:=λe=>h (by rw[e])
  simp[this]
end Go.Proofs.YtacapiamkgkkjaaGreatDoor.cl
namespace Go.Proofs.YtacapiamkgkkjaaGreatDoor.cl
open Go Go.AM
def e1 (w:Nat):W:=if w=0 then[] else[(w:Int)]
theorem mQ (w:Nat):(e1 w).length<=1:=by unfold e1;grind
theorem Na (w:Nat):wd (e1 w) 0=(w:Int):=by grind[e1,wd]
theorem VA (w j:Nat):wd (e1 w) (j+1)=0:=BQ (by have:=mQ w;omega)
def TZ {w v:Nat} (h:e1 w=e1 v):w=v:=by grind[Na]
theorem FI {w v:Nat} (hw:w<18446744073709551616) (hv:v<18446744073709551616):GH (w:Int) (v:Int)=((w&&&v:Nat):Int):=by have h:w&&&v<=w:=nN;show wrap _ (((BitVec.ofNat 64 w&&&BitVec.ofNat _ v).toNat))=_;grind[zT]
def acv {w v:Nat} (hw:w<18446744073709551616) (hv:v<18446744073709551616):w|||v<18446744073709551616:=by have:=Nat.or_lt_two_pow (n:=64) (x:=w) (y:=v) (by simpa using hw) (by simpa using hv);simpa using this
def acu {w v:Nat} (hw:w<18446744073709551616) (hv:v<18446744073709551616):or64 (w:Int) (v:Int)=((w|||v:Nat):Int):=by have h:=acv hw hv;show wrap _ (((BitVec.ofNat 64 w|||BitVec.ofNat _ v).toNat))=_;grind[zT]
theorem yo {w v:Nat} (hw:w<18446744073709551616) (hv:v<18446744073709551616):ym (w:Int) (v:Int)=0↔sub w v=true:=by
 show wrap _ (((BitVec.ofNat 64 w&&& ~~~BitVec.ofNat _ v).toNat))=0↔_;rw[zT af af];have e:((((BitVec.ofNat 64 w&&& ~~~BitVec.ofNat _ v).toNat):Int)=0)↔(BitVec.ofNat 64 w&&& ~~~BitVec.ofNat _ v).toNat=0:=af;rw[e,kA];constructor
 .intro h i hi;have q:i<64:=by
   apply ef;intro z
   have:w.testBit i=false:=yN (eW (by omega:w<2^ 64) (uK af af))
   rw[this] at hi;cases hi
  have:=aR (λx=>x.testBit i) h;grind
 .intro h;apply uJ;simp only[BitVec.testBit_toNat,BitVec.getLsbD_and,BitVec.getLsbD_not,BitVec.getLsbD_ofNat];simp_all
def YD (f:Nat->Int):norm (Fu 1 f)=if f 0=0 then[] else[f 0]:=by
 have:Fu 1 f=[f 0]:=by simp[Fu,kL]
 rw[this];unfold norm;simp only[c8,nl];have hw:wd [f 0] 0=f 0:=rfl;rw[hw];split<;>simp
theorem Sf {f:Nat->Int} {n w:Nat} (B:n<=1) (z:n=1->f 0=(w:Int)) (q:n=0->w=0):norm (Fu n f)=e1 w:=by cases n with
 |zero=>rw[q rfl];rfl
 |succ n=>
  have:n=0:=af
  subst this;rw[YD];simp_all[e1]
theorem Eg {w:Nat} (h:(e1 w).length=0):w=0:=by simp_all[e1]
section
variable {w v:Nat} (hw:w<18446744073709551616) (hv:v<18446744073709551616)
include hw hv
theorem o61:f61 (e1 w) (e1 v)=some (e1 (w&&&v)):=by grind[mQ,c61,Sf,Na,FI,Eg]
theorem YF:f29 (e1 w) (e1 v)=some (e1 (w&&&v)):=by
 have B:=mQ w;have z:=mQ v;rw[c29 _ _ af af];congr 1;refine Sf af (λ_=> ?_) (λh=> ?_)
 .rw[Na,Na,FI hw hv]
 .by_cases q:(e1 w).length=0
  .rw[Eg q];simp
  .rw[Eg (show(e1 v).length=0 by omega)];simp
theorem Xi:Gi (e1 w) (e1 v)=sub w v:=by simp[Gi];grind[e1,kA,Na,yo]
theorem o63:f63 (e1 w) (e1 v)=some (sub w v):=by grind[c63,mQ,Xi]
theorem o65:f65 (e1 w) (e1 v)=some (sub w v):=by grind[c65,mQ,Xi]
theorem o57:f57 (e1 w) (e1 v)=some (decide (w=v)):=by rw[c57 _ _ (by have:=mQ w;omega)];congr 1;rw[nP];exact⟨TZ,λh=>by rw[h]⟩
end
def Sc {a b:W} (h:∀j,wd a j=wd b j):∀n,nl a n=nl b n
 |0=>rfl
 |n+1=>by unfold nl;rw[h n,Sc h n]
def acg (a:W):∀n,a.length<=n->nl a n=nl a a.length:=by intro n z;induction n with
 |zero=>simp_all
 |succ n q=>
  by_cases h:a.length=n+1
  .rw[h]
  .rw[<-q af];show(if wd a n=0 then nl a n else n+1)=_;rw[aB (BQ af)]
def Se {a b:W} (h:∀j,wd a j=wd b j):norm a=norm b:=by
 have q:nl a a.length=nl b b.length:=by rw[<-acg a (max a.length _) af,<-acg b (max _ b.length) af,Sc h]
 unfold norm;apply nH
 .grind[ach]
 simp_all[BP]
theorem nl_pos {a:W}:∀n j,nl a n<=j->j<n->wd a j=0:=by intro n;induction n with
 |zero=>intro j _ h;omega
 |succ n z=>
  intro j q B;unfold nl at q;split at q
  .rename_i h;by_cases e:j=n
   .subst e;exact h
   .exact z j q af
  .omega
def XE (a:W) (j:Nat):wd (norm a) j=wd a j:=by
 unfold norm;by_cases h:j<nl a a.length
 .rw[wd,bq,List.getElem?_take_of_lt h,wd,bq]
 grind[BQ,nl_pos]
theorem Ia (w:Nat):norm (e1 w)=e1 w:=by
 unfold e1;split
 .rfl
 .have:wd [(w)] 0=(w):=rfl
  simp_all[norm,nl]
def Wds (b:W):Prop:=∀x∈b,0<=x/\x<18446744073709551616
def P9 {b:W} (h:Wds b) (j:Nat):∃w:Nat,wd b j=(w:Int)/\w<18446744073709551616:=by
 by_cases hj:j<b.length
 .have:=h _ (cG hj);rw[BP] at this;exact⟨(wd b j).toNat,by omega,af⟩
 .exact⟨0,by rw[BQ af];rfl,af⟩
def YW {a b:W} (B:Wds a) (I:Wds b):(Gi a b&&Gi b a)=decide (norm a=norm b):=by
 rw[iF];simp[aK,je,Gi,cF,gp];constructor
 .rintro⟨F,G⟩;apply Se;intro j;obtain⟨x,z,q⟩:=P9 B j;obtain⟨y,D,K⟩:=P9 I j;have L:sub x y=true:=by
   by_cases hj:j<a.length
   .have:=F j hj;simp_all[yo]
   .rw[BQ af] at z
    have:x=0:=af
    grind[kA]
  have N:sub y x=true:=by
   by_cases hj:j<b.length
   .have:=G j hj;simp_all[yo]
   .rw[BQ af] at D
    have:y=0:=af
    grind[kA]
  rw[z,D,su L N]
 .intro h;have hw:∀j,wd a j=wd b j:=λj=>by rw[<-XE a,h,XE]
  constructor
  .intro j _;obtain⟨x,z,q⟩:=P9 B j;simp_all[yo,yp]
  .intro j _;obtain⟨x,z,q⟩:=P9 B j;simp_all[yo,yp]
def ac9 {w:Nat} (hw:w<18446744073709551616):Wds (e1 w):=by intro x q;unfold e1 at q;grind
structure Cd (l:List fJ) (cs:List Nat):Prop where
 eq:l.map (·.Code)=cs.map e1
 lt:∀c∈cs,c<18446744073709551616
 len:cs.length<=1048576
def Cd.length {l:List fJ} {cs:List Nat} (h:Cd l cs):l.length=cs.length:=by have:=aR List.length h.eq;simp_all
def Cd.code {l:List fJ} {cs:List Nat} (h:Cd l cs) {i:Nat} (hi:i<l.length):l[i].Code=e1 (cs.getD i 0):=by
 have q:i<cs.length:=by rw[<-h.length];exact hi
 have:=aR (λm=>m[i]?) h.eq;simp only[dP,aN hi,aN q,cV,aM] at this;rw[this,bq,aN q];rfl
def Cd.get {l:List fJ} {cs:List Nat} (h:Cd l cs) {i:Nat} (hi:i<cs.length):cs.getD i 0<18446744073709551616:=h.lt _ (kW hi)
def Cd.mem {l:List fJ} {cs:List Nat} (h:Cd l cs) {x:fJ} (q:x∈l):∃c,c∈cs/\x.Code=e1 c:=by
 have:x.Code∈l.map _:=iH q
 rw[h.eq] at this;grind
def h19 {l:List fJ} (q:l.length<=1073741824) (z:∀x∈l,x.Code.length<=1073741824) (n:W):∀(xs:List fJ) (i:Nat),l.drop i=xs->
  Xk l n i=some (jm (λx=>decide (x.Code=n)) xs i):=by
 intro xs;induction xs with
 |nil=>intro i h;refine k19_3 ?_;rw[bp h];rfl
 |cons x xs D=>
  intro i h;refine k19_3 ?_;have B:x∈l:=by rw[<-nQ i l,h];simp
  rw[aT h,aP h,c57 _ _ (z x B),aQ h q,D _ (aJ h),jm];grind
theorem c19 {l:List fJ} {cs:List Nat} (H:Cd l cs) {code:W} (q:code.length<=1073741824):f19 l code=some (jm (λx=>decide (x.Code=norm code)) l 0):=by refine e19 ?_;rw[c60 _ q,ak];refine h19 (by have:=H.len;rw[H.length];omega) (λx z=> ?_) _ l 0 rfl;obtain⟨c,_,e⟩:=H.mem z;grind[mQ]
def ix_fnd:∀(l:List fJ) (cs:List Nat) (w i:Nat),l.map (·.Code)=cs.map e1->
  jm (λx=>decide (x.Code=e1 w)) l i=match cs.findIdx? (· ==w) with
   |some j=>((i+j:Nat):Int)
   |none=> -1:=by
 intro l;induction l with
 |nil=>intro cs w i h;cases cs with
  |nil=>rfl
  |cons c cs=>simp at h
 |cons x l D=>intro cs w i h;cases cs with
  |nil=>simp at h
  |cons c cs=>
   simp only[bu,cg] at h;rw[jm,D cs w (i+1) h.2,uD];by_cases e:c=w
   .subst e;simp[h.1]
   .have z:¬(x.Code=e1 w):=by rw[h.1];exact λq=>e (TZ q)
    have B:(c==w)=false:=by simpa using e
    simp only[z,uE,dB,eF,B];cases cs.findIdx? (· ==w) with
    |none=>rfl
    |some j=>
     show(((i+1)+j:Nat):Int)=((i+(j+1):Nat):Int)
     rw[kS,jU 1 j]
theorem ix_fnd0 {l:List fJ} {cs:List Nat} (H:Cd l cs) (w:Nat):jm (λx=>decide (x.Code=e1 w)) l 0=GY cs w:=by rw[ix_fnd l cs w 0 H.eq,GY];cases cs.findIdx? (· ==w)<;>simp
def o19 {l:List fJ} {cs:List Nat} (H:Cd l cs) (w:Nat):f19 l (e1 w)=some (GY cs w):=by grind[c19,mQ,Ia,ix_fnd0]
section
variable {l:List fJ} {cs:List Nat} (H:Cd l cs) {i j:Nat} (hi:i<cs.length) (hj:j<cs.length)
include H hi hj
theorem Y8:f25 l i j=some (sub (cs.getD j 0) (cs.getD i 0)):=by refine e25 ?_;have q:=H.length;rw[cQ af,cQ af,H.code,H.code,o65 (H.get hj) (H.get hi)];rfl
end
abbrev cast (l:List Nat):List Int:=l.map λn:Nat=>(n:Int)
def FN {l:List Nat} {i:Nat} {x:Nat} {xs:List Nat} (h:l.drop i=x::xs):(cast l).drop i=(x:Int)::cast xs:=by rw[<-lS,h];rfl
def ZL {l:List Nat} {i:Nat} (h:l.drop i=[]):(cast l).drop i=[]:=by rw[<-lS,h];rfl
def HO (cs:List Nat) (i k m:Nat):Bool:=m==i||m==k|| !sub (cs.getD m 0) (cs.getD k 0)|| !sub (cs.getD i 0) (cs.getD m 0)
section
variable {l:List fJ} {cs:List Nat} (H:Cd l cs)
include H
theorem h28b {i k:Nat} (hi:i<cs.length) (K:k<cs.length) {o:List Int} (N:o.length<=1073741824) {r:R28.T}:∀(n m:Nat) (q:Bool),cs.length-m=n->m<=cs.length->
  HA l i (k+1:Nat) (if(q&&(List.range' m (cs.length-m)).all (HO cs i k))=true then o++[(k:Int)] else o)=some r->HB l i k q m o=some r:=by
 have I:=H.len;have P:=H.length;intro n;induction n with
 |zero=>
  intro m q L D h;refine k28_8 ?_
  have:m=cs.length:=af
  subst this;rw[cond_neg aH,bQ af];simp only[nK,List.range'_zero,yF,rz] at h;cases q with
  |true=>rw[aj,cH _ N ai af];simpa using h
  |false=>simpa using h
 |succ n B=>
  intro m q L D h;refine k28_8 ?_;have O:List.range' m (cs.length-m)=m::List.range' (m+1) (cs.length-(m+1)):=by rw[show cs.length-m=(cs.length-(m+1))+1 by omega,qX]
  rw[O,gH] at h;have z:m<cs.length:=by omega
  rw[cond_pos aH,bQ af];cases q with
  |false=>rw[au];exact B (m+1) false af af (by simpa using h)
  |true=>
   rw[aj];by_cases e1:m=i
   .rw[cond_pos aH];refine B (m+1) true af af ?_
    have:HO cs i k m=true:=by simp[HO,e1]
    rw[this,gq] at h;exact h
   .rw[cond_neg aH];by_cases F:m=k
    .rw[cond_pos aH];refine B (m+1) true af af ?_
     have:HO cs i k m=true:=by simp[HO,F]
     rw[this,gq] at h;exact h
    .rw[cond_neg aH,Y8 H K z,ak];cases G:sub (cs.getD m 0) (cs.getD k 0) with
     |false=>
      rw[eB,aj];refine B (m+1) true af af ?_
      have:HO cs i k m=true:=by simp only[HO,G];simp
      rw[this,gq] at h;exact h
     |true=>
      rw[di,au,Y8 H z hi,ak];refine B (m+1) _ af af ?_
      have:HO cs i k m= !sub (cs.getD i 0) (cs.getD m 0):=by simp only[HO,G];simp[e1,F]
      rw[this,gq] at h;exact h
def Lz (cs:List Nat) (i:Nat) (k:Nat):Bool:=k !=i&&sub (cs.getD i 0) (cs.getD k 0)&&(List.range cs.length).all (HO cs i k)
theorem h28a {i:Nat} (hi:i<cs.length):∀(n k:Nat) (q:List Nat),cs.length-k=n->k<=cs.length->q.length<=k->
  HA l i k (cast q)=some (cast (q++(List.range' k (cs.length-k)).filter (Lz cs i))):=by
 have I:=H.len;have O:=H.length;intro n;induction n with
 |zero=>intro k q G D z;refine k28_3 ?_;rw[cond_neg aH,G];simp
 |succ n B=>
  intro k q G D z;refine k28_3 ?_;have N:List.range' k (cs.length-k)=k::List.range' (k+1) (cs.length-(k+1)):=by rw[show cs.length-k=(cs.length-(k+1))+1 by omega,qX]
  rw[cond_pos aH,bQ af,N,fV];by_cases e:k=i
  .rw[cond_pos aH,B (k+1) q af af af]
   have:Lz cs i k=false:=by simp[Lz,e]
   rw[this];rfl
  .rw[cond_neg aH,Y8 H af hi,ak];cases F:sub (cs.getD i 0) (cs.getD k 0) with
   |false=>
    rw[eB,aj,B (k+1) q af af af]
    have:Lz cs i k=false:=by simp only[Lz,F];simp
    rw[this];rfl
   |true=>
    rw[di,au];refine h28b H hi af aH _ 0 true rfl af ?_;have K:Lz cs i k=(List.range cs.length).all (HO cs i k):=by simp only[Lz,F];simp[e]
    rw[uL,<-yM,gq,<-K];cases L:Lz cs i k with
    |true=>have:=B (k+1) (q++[k]) af af aH;simpa using this
    |false=>have:=B (k+1) q af af af;simpa using this
omit H in
theorem X4 (i:Nat):(List.range cs.length).filter (Lz cs i)=acO cs i:=by
 unfold acO Tr;rw[DW];apply lQ;intro k P;rw[iF];simp only[Lz,aK,cF,gp,gO,uy,cE,kJ,ne_eq,HO,gA,gT];constructor
 .rintro⟨⟨q,z⟩,B⟩;refine⟨?_,q,z⟩;rintro m ⟨D,F,G⟩ ⟨I,K⟩;rcases B m D with((h|h)|h)|h
  .exact F h
  .exact I h
  .rw[K] at h;cases h
  .rw[G] at h;cases h
 .rintro⟨B,q,z⟩;refine⟨⟨q,z⟩,?_⟩;intro m D;by_cases e1:m=i
  .exact .inl (.inl (.inl e1))
  by_cases L:m=k
  .exact .inl (.inl (.inr L))
  cases N:sub (cs.getD m 0) (cs.getD k 0) with
  |false=>exact .inl (.inr rfl)
  |true=>cases O:sub (cs.getD i 0) (cs.getD m 0) with
   |false=>exact .inr rfl
   |true=>exact absurd ⟨L,N⟩ (B m ⟨D,e1,O⟩)
theorem o28 {i:Nat} (hi:i<cs.length):f28 l i=some (cast (acO cs i)):=by refine e28 ?_;have:=h28a H hi _ 0 [] rfl af ai;rw[uL,<-yM,X4] at this;assumption
end
end Go.Proofs.YtacapiamkgkkjaaGreatDoor.cl
namespace Go.AM
abbrev cr:Type:=List UInt8
def SS (l:List cr):Prop:=l.Pairwise λa b=>Op.bytesLess a b=true
def I4 {a b:cr} (h:Op.bytesLess a b=true):a≠b:=λe=>by subst e;rw[BU] at h;cases h
def SS.nodup {l:List cr} (h:SS l):l.Nodup:=h.imp λh=>I4 h
def qP (s:cr):List cr->List cr
 |[]=>[s]
 |x::l=>if Op.bytesLess x s=true then x::qP s l else if x=s then x::l else s::x::l
def R3 {s y:cr}:∀{l:List cr},y∈qP s l↔y=s\/y∈l:=by intro l;induction l with
 |nil=>simp[qP]
 |cons x l q=>
  unfold qP;split
  .simp only[aI,q];exact⟨λh=>h.elim (λh=> .inr (.inl h)) λh=>h.elim .inl λh=> .inr (.inr h),λh=>h.elim (λh=> .inr (.inl h)) λh=>h.elim .inl λh=> .inr (.inr h)⟩
  .split
   .rename_i h;subst h;simp
   .simp
def nv (s:cr):∀l:List cr,(qP s l).length<=l.length+1:=by intro l;induction l with
 |nil=>simp[qP]
 |cons x l q=>unfold qP;split<;>(try split)<;>simp<;>omega
def Sw {s:cr}:∀{l:List cr},SS l->SS (qP s l):=by intro l;induction l with
 |nil=>intro _;simp[qP,SS]
 |cons x l K=>
  intro h;have z:=dO.1 h;unfold qP;split
  .rename_i I;refine dO.2 ⟨?_,K z.2⟩;intro y q;rcases R3.1 q with rfl|q
   .exact I
   .exact z.1 y q
  .split
   .exact h
   .rename_i F G;have B:Op.bytesLess x s=false:=by simpa using F
    have D:=AL x s B G;refine dO.2 ⟨?_,h⟩;intro y q;rcases aI.1 q with rfl|q
    .exact D
    .exact vq _ _ _ D (z.1 y q)
def ng (l:List cr):List cr:=l.foldl (λo s=>qP s o) []
theorem Dh:∀(l o:List cr),SS o->SS (l.foldl (λo s=>qP s o) o)/\(∀y,y∈l.foldl (λo s=>qP s o) o↔y∈o\/y∈l)/\(l.foldl (λo s=>qP s o) o).length<=o.length+l.length:=by intro l;induction l with
 |nil=>intro o h;exact⟨h,λy=>by simp,ai⟩
 |cons x l D=>
  intro o h;obtain⟨q,z,B⟩:=D (qP x o) (Sw h);refine⟨q,λy=> ?_,?_⟩
  .show y∈List.foldl _ (qP x o) l↔_;rw[z,R3,aI];exact⟨λh=>h.elim (λh=>h.elim (λh=> .inr (.inl h)) .inl) λh=> .inr (.inr h),λh=>h.elim (λh=> .inl (.inr h)) λh=>h.elim (λh=> .inl (.inl h)) .inr⟩
  .have:=nv x o;simp only[fO,bw] at B⊢;omega
theorem mw (l:List cr):SS (ng l):=(Dh l [] (by simp[SS])).1
theorem gy {l:List cr} {y:cr}:y∈ng l↔y∈l:=by have:=(Dh l [] (by simp[SS])).2.1 y;simpa[ng] using this
def qk (l:List cr):(ng l).length<=l.length:=by have:=(Dh l [] (by simp[SS])).2.2;simpa[ng] using this
theorem SS.ext:∀{l m:List cr},SS l->SS m->(∀y,y∈l↔y∈m)->l=m:=by intro l;induction l with
 |nil=>intro m _ _ h;cases m with
  |nil=>rfl
  |cons y m=>exact absurd ((h y).2 ai) ai
 |cons x l R=>intro m N O h;cases m with
  |nil=>exact absurd ((h x).1 ai) ai
  |cons y m=>
   have D:=dO.1 N;have F:=dO.1 O;have G:x=y:=by
    rcases aI.1 ((h x).1 ai) with e|P
    .exact e
    .rcases aI.1 ((h y).2 ai) with e|Q
     .exact e.symm
     .have L:=F.1 x P;have K:=D.1 y Q;rw[AK L] at K;cases K
   subst G;congr 1;refine R D.2 F.2 λz=> ?_
   have I:=h z;simp only[aI] at I;constructor
   .intro q;rcases I.1 (.inr q) with e|B
    .subst e;exact absurd rfl (I4 (D.1 z q))
    .exact B
   .intro B;rcases I.2 (.inr B) with e|q
    .subst e;exact absurd rfl (I4 (F.1 z B))
    .exact q
theorem jy {I:Type}:∀{l m:List I},l.Nodup->(∀x∈l,x∈m)->l.length<=m.length:=by intro l;induction l with
 |nil=>intro m _ _;simp
 |cons x l G=>
  intro m F B;have q:=fM.1 F;obtain⟨a,b,rfl⟩:=DQ (B x ai)
  have:=G (m:=a++b) q.2 (λy D=>by
   have z:=B y (by simp[D]);simp only[bA,aI] at z⊢;rcases z with h|h|h
   .exact .inl h
   .subst h;exact absurd D q.1
   .exact .inr h)
  simp only[bw,cM] at this⊢;omega
def UX {K:Type} {l m:List K} (D:l.Nodup) (G:∀x∈l,x∈m) (z:m.length<=l.length):∀x∈m,x∈l:=by
 intro x I;apply ef;intro F;have B:(x::l).Nodup:=fM.2 ⟨F,D⟩
 have:=jy (m:=m) B (λy q=>by
  rcases aI.1 q with rfl|q
  .exact I
  .exact G y q)
 simp at this;omega
def iZ (o:List cr) (l:List cr):List cr:=l.foldl (λo y=>if y∈o then o else o++[y]) o
def Ql:∀(l o:List cr),(∀y,y∈iZ o l↔y∈o\/y∈l)/\(o.Nodup->(iZ o l).Nodup)/\∃e,iZ o l=o++e:=by intro l;induction l with
 |nil=>intro o;exact⟨λy=>by simp[iZ],λh=>h,[],by simp[iZ]⟩
 |cons x l G=>
  intro o;by_cases q:x∈o
  .obtain⟨z,B,D⟩:=G o;have e:iZ o (x::l)=iZ o l:=by simp[iZ,q]
   rw[e];refine⟨λy=> ?_,B,D⟩;rw[z,aI];exact⟨λh=>h.elim .inl λh=> .inr (.inr h),λh=>h.elim .inl λh=>h.elim (λh=> .inl (h▸q)) .inr⟩
  .obtain⟨z,B,I,D⟩:=G (o++[x]);have e:iZ o (x::l)=iZ (o++[x]) l:=by simp[iZ,q]
   rw[e];refine⟨λy=> ?_,λh=>B ?_,x::I,by rw[D];simp⟩
   .rw[z,aI,bA,bS];exact⟨λh=>h.elim (λh=>h.elim .inl λh=> .inr (.inl h)) λh=> .inr (.inr h),λh=>h.elim (λh=> .inl (.inl h)) λh=>h.elim (λh=> .inl (.inr h)) .inr⟩
   .rw[iE];exact⟨h,by simp,λa K b F=>by simp only[bS] at F;subst F;exact λe=>q (e▸K)⟩
inductive sV (next:cr->List cr) (x:cr):cr->Prop
 |refl:sV next x x
 |step {y z:cr}:sV next x y->z∈next y->sV next x z
theorem sV.trans {next:cr->List cr} {x y z:cr} (q:sV next x y) (B:sV next y z):sV next x z:=by induction B with
 |refl=>exact q
 |step _ D F=>exact .step F D
def search {R:Type} {next:cr->List cr} {U:List cr} {x0:cr} (h0:x0∈U) (hU:∀x∈U,∀y∈next x,y∈U)
  {outer:Nat->List cr->Option R} {fin:List cr->Option R}
  (G:∀i o,o.length<=U.length->o.length<=i->∀r,fin o=some r->outer i o=some r)
  (N:∀i o x,o.length<=U.length->(iZ o (next x)).length<=U.length->o[i]? =some x->x∈U->∀r,outer (i+1) (iZ o (next x))=some r->outer i o=some r):
  ∃o:List cr,o.Nodup/\(∀y,y∈o↔sV next x0 y)/\o.length<=U.length/\∀r,fin o=some r->outer 0 [x0]=some r:=by
 have key:∀(n i:Nat) (o:List cr),U.length-i=n->o.Nodup->x0∈o->(∀y∈o,y∈U/\sV next x0 y)->(∀j y,j<i->o[j]? =some y->∀z∈next y,z∈o)->
   ∃Q:List cr,Q.Nodup/\(∀y,y∈Q↔sV next x0 y)/\Q.length<=U.length/\∀r,fin Q=some r->outer i o=some r:=by
  intro n;induction n with
  |zero=>
   intro i o hn K hx L hc;have q:=jy K λy B=>(L y B).1
   refine⟨o,K,λy=>⟨λB=>(L y B).2,λF=> ?_⟩,q,λr F=>G i o q af r F⟩;induction F with
   |refl=>exact hx
   |step _ P V=>obtain⟨j,hj,e⟩:=iQ.1 V;exact hc j _ af (by rw[aN hj,e]) _ P
  |succ n V=>
   intro i o hn K hx L hc;have q:=jy K λy B=>(L y B).1
   by_cases hi:i<o.length
   .have I:o[i]? =some o[i]:=aN hi;have O:=L o[i] (cG hi);obtain⟨a1,a2,e,a3⟩:=Ql (next o[i]) o;have S:∀y∈iZ o (next o[i]),y∈U/\sV next x0 y:=λy B=>by
     rcases(a1 y).1 B with h|h
     .exact L y h
     .exact⟨hU _ O.1 y h, .step O.2 h⟩
    obtain⟨Q,r1,r2,r3,r4⟩:=V (i+1) (iZ o (next o[i])) af (a2 K) ((a1 _).2 (.inl hx)) S (λj y hj B z P=>by
     by_cases hji:j<o.length
     .have D:o[j]? =some y:=by
       rw[a3,eX hji] at B;exact B
      by_cases e2:j=i
      .subst e2;rw[I] at D;injection D with D;subst D;exact(a1 z).2 (.inr P)
      .exact(a1 z).2 (.inl (hc j y af D z P))
     .omega)
    exact⟨Q,r1,r2,r3,λr F=>N i o _ q (jy (a2 K) λy B=>(S y B).1) I O.1 r (r4 r F)⟩
   .refine⟨o,K,λy=>⟨λB=>(L y B).2,λF=> ?_⟩,q,λr F=>G i o q af r F⟩;induction F with
    |refl=>exact hx
    |step _ P V=>obtain⟨j,hj,e⟩:=iQ.1 V;exact hc j _ af (by rw[aN hj,e]) _ P
 exact key _ 0 [x0] rfl ai ai (λy B=>by simp only[bS] at B;subst B;exact⟨h0, .refl⟩) (λj y hj=>by omega)
