/- The Closure laws, plain. -/
import Derived.Test.YtacapiamkgkkjaaGreatDoorAmP
import Derived.Test.YtacapiamkgkkjaaGreatDoorClF
import Derived.Test.YtacapiamkgkkjaaGreatDoorClO
set_option linter.all false
open Go.IntKind (wrap)
open BitVec (ofInt)
namespace Go.Proofs.YtacapiamkgkkjaaGreatDoor.cl
def sub (a b:Nat):Bool:=a&&&b==a
def Zc {a b:Nat}:sub a b=true↔a&&&b=a:=by simp[sub]
theorem kR {a b:Nat}:sub a b=true↔∀i,a.testBit i=true->b.testBit i=true:=by
 rw[Zc];constructor
 .intro h i hi;have:=aU (λx=>x.testBit i) h;simp only[mJ,hi,gM] at this;exact this
 .intro h;apply vn;intro i;rw[mJ];cases hi:a.testBit i with
  |false=>rfl
  |true=>rw[h i hi];rfl
def zc (a:Nat):sub a a=true:=kR.2 λ_ h=>h
def ze {a b c:Nat} (q:sub a b=true) (z:sub b c=true):sub a c=true:=kR.2 λi h=>kR.1 z i (kR.1 q i h)
def tf {a b:Nat} (q:sub a b=true) (z:sub b a=true):a=b:=by apply vn;intro i;rw[ia];exact⟨kR.1 q i,kR.1 z i⟩
def FR (a b:Nat):sub (a&&&b) a=true:=kR.2 λi h=>by rw[mJ,aT] at h;exact h.1
def Nh (a b:Nat):sub (a&&&b) b=true:=kR.2 λi h=>by rw[mJ,aT] at h;exact h.2
def Zb {a b c:Nat} (q:sub a b=true) (z:sub a c=true):sub a (b&&&c)=true:=kR.2 λi h=>by rw[mJ,kR.1 q i h,kR.1 z i h];rfl
def H9 (cs:List Nat) (w:Nat):Int:=match cs.findIdx? (· ==w) with
 |some i=>(i:Int)
 |none=> -1
def XX {cs:List Nat} {w:Nat} (h:w∉cs):H9 cs w= -1:=by
 have:cs.findIdx? (· ==w)=none:=by rw[Ez];intro x q;simp;intro e;subst e;exact h q
 simp[H9,this]
def Pj {cs:List Nat} {w:Nat} (h:w∈cs):∃i,i<cs.length/\cs.getD i 0=w/\H9 cs w=(i:Int):=by cases e:cs.findIdx? (· ==w) with
 |none=>rw[Ez] at e;have:=e w h;simp at this
 |some i=>
  rw[zu] at e;obtain⟨hi,q,_⟩:=e;refine⟨i,hi,?_,?_⟩
  .rw[bD,aM hi];simpa using q
  .have z:cs.findIdx? (· ==w)=some i:=by
    rw[zu];exact⟨hi,q,by assumption⟩
   simp[H9,z]
theorem mA {cs:List Nat} {i:Nat} (h:i<cs.length):cs.getD i 0∈cs:=by rw[bD,aM h];exact cG h
theorem getD_inj {cs:List Nat} (nd:cs.Nodup) {i j:Nat} (hi:i<cs.length) (hj:j<cs.length) (h:cs.getD i 0=cs.getD j 0):i=j:=by rw[bD,bD,aM hi,aM hj] at h;exact(sC nd).1 h
structure abr (cs:List Nat):Prop where
 nd:cs.Nodup
 nz:∀c∈cs,c≠0
 cl:∀a∈cs,∀b∈cs,a&&&b≠0->a&&&b∈cs
 top:∀c∈cs,sub c (cs.getD 0 0)=true
 pos:0<cs.length
 Ot:∀i j,i<cs.length->j<cs.length->sub (cs.getD j 0) (cs.getD i 0)=true->i<=j
def Vi (cs:List Nat) (i:Nat):List Nat:=(List.range cs.length).filter λk=>k !=i&&sub (cs.getD i 0) (cs.getD k 0)
def afe (cs:List Nat) (i:Nat):List Nat:=(Vi cs i).filter λk=> !(Vi cs i).any λm=>m !=k&&sub (cs.getD m 0) (cs.getD k 0)
end Go.Proofs.YtacapiamkgkkjaaGreatDoor.cl
namespace Go.Proofs.YtacapiamkgkkjaaGreatDoor.cl
open Go Go.AM
abbrev W:=List Int
def wd (b:W) (i:Nat):Int:=b.getD i 0
def nl (b:W):Nat->Nat
 |0=>0
 |n+1=>if wd b n=0 then nl b n else n+1
def norm (b:W):W:=b.take (nl b b.length)
def HN (x y:Int):Int:=wrap .u64 ((ofInt (IntKind.bits .u64) x&&&ofInt (IntKind.bits .u64) y).toNat:Int)
def or64 (x y:Int):Int:=wrap .u64 ((ofInt (IntKind.bits .u64) x|||ofInt (IntKind.bits .u64) y).toNat:Int)
def za (x y:Int):Int:=wrap .u64 ((ofInt (IntKind.bits .u64) x&&& ~~~ofInt (IntKind.bits .u64) y).toNat:Int)
theorem aeI (b:W):∀n,nl b n<=n
 |0=>aQ _
 |n+1=>by unfold nl;split;exact Nat.le_succ_of_le (aeI b n);exact aQ _
def Co {b:W} {i:Nat} (h:i<b.length):b[i]=wd b i:=by simp[wd,bD,aM h]
theorem Cp {b:W} {i:Nat} (h:b.length<=i):wd b i=0:=by simp[wd,bD,ig h]
def c106 (b:W) (i:Nat):f106 b i=some (wd b i):=by
 refine e106 ?_;by_cases h:i<b.length
 .rw[cond_pos aH,cR h,Co h]
 .rw[cond_neg aH,Cp af]
def c107 (b:W) (i:Nat):f107 b i=some (wd b i):=by
 refine e107 ?_;by_cases h:i<b.length
 .rw[cond_pos aH,cR h,Co h]
 .rw[cond_neg aH,Cp af]
def h68 (b:W) (B:b.length<=1073741824):∀(n:Nat),n<=b.length->Zo b n=some (b.take (nl b n)):=by intro n;induction n with
 |zero=>intro q;refine k68_2 ?_;rw[cond_neg ai,b9 ai];simp[nl]
 |succ n z=>
  intro q;refine k68_2 ?_;rw[cond_pos ai,qO af,cR af,Co];by_cases h:wd b n=0
  .rw[cond_pos (by simpa using h),z af];simp[nl,h]
  .rw[cond_neg (by simpa using h),b9 aH]
   have:nl b (n+1)=n+1:=by simp[nl,h]
   simp[this]
def c68 (b:W) (q:b.length<=1073741824):f68 b=some (norm b):=e68 (h68 b q _ (aQ _))
def h60 (b:W) (B:b.length<=1073741824):∀(n:Nat),n<=b.length->Zl b n=some (b.take (nl b n)):=by intro n;induction n with
 |zero=>intro q;refine k60_2 ?_;rw[cond_neg ai,b9 ai,b9 ai];simp[nl]
 |succ n z=>
  intro q;refine k60_2 ?_;rw[cond_pos ai,qO af,cR af,Co];by_cases h:wd b n=0
  .rw[cond_pos (by simpa using h),z af];simp[nl,h]
  .rw[cond_neg (by simpa using h),b9 aH,b9 aH]
   have:nl b (n+1)=n+1:=by simp[nl,h]
   simp[this]
def c60 (b:W) (q:b.length<=1073741824):f60 b=some (norm b):=e60 (h60 b q _ (aQ _))
def tab (n:Nat) (f:Nat->Int):W:=(List.range n).map f
def UW (n:Nat) (f:Nat->Int):tab (n+1) f=tab n f++[f n]:=by simp[tab,lF]
def tT (n:Nat) (f:Nat->Int):(tab n f).length=n:=by simp[tab]
def afD (n:Nat) (f:Nat->Int) (i:Nat):wd (tab n f) i=if i<n then f i else 0:=by by_cases h:i<n<;>simp[wd,tab,bD,dV,vm,h]
def h61 (a b:W) (z:a.length<=1073741824):∀(n i:Nat),a.length-i=n->i<=a.length->
  Zm a b i (tab i λj=>HN (wd a j) (wd b j))=some (norm (tab a.length λj=>HN (wd a j) (wd b j))):=by
 intro n;induction n with
 |zero=>
  intro i hi q
  have:i=a.length:=af
  subst this;refine k61_3 ?_;rw[cond_neg ai,c60 _ (by rw[tT];exact z)];rfl
 |succ n B=>intro i hi q;refine k61_3 ?_;rw[cond_pos aH,cR af,c106,ak,cF _ (by rw[tT];omega) ai af,bJ af,Co];have:=B (i+1) af af;rw[UW] at this;exact this
theorem c61 (a b:W) (q:a.length<=1073741824):f61 a b=some (norm (tab a.length λj=>HN (wd a j) (wd b j))):=
 e61 (h61 a b q _ 0 rfl (cO _))
def h108 (a b:W) (z:a.length<=1073741824):∀(n i:Nat),a.length-i=n->i<=a.length->
  QO a b i (tab i λj=>za (wd a j) (wd b j))=some (norm (tab a.length λj=>za (wd a j) (wd b j))):=by
 intro n;induction n with
 |zero=>
  intro i hi q
  have:i=a.length:=af
  subst this;refine ac7 ?_;rw[cond_neg ai,c60 _ (by rw[tT];exact z)];rfl
 |succ n B=>intro i hi q;refine ac7 ?_;rw[cond_pos aH,cR af,c106,ak,cF _ (by rw[tT];omega) ai af,bJ af,Co];have:=B (i+1) af af;rw[UW] at this;exact this
def c108 (a b:W) (q:a.length<=1073741824):f108 a b=some (norm (tab a.length λj=>za (wd a j) (wd b j))):=
 e108 (h108 a b q _ 0 rfl (cO _))
def minI (x y:Nat):(if(y:Int)<(x:Int) then(y:Int) else(x:Int))=((min x y:Nat):Int):=by split<;>omega
def I4 (n i:Nat) (f:Nat->Int):W:=tab n λj=>if j<i then f j else 0
def aah (n:Nat) (f:Nat->Int):I4 n 0 f=List.replicate n 0:=by apply oh<;>simp[I4,tab]
def aag (n:Nat) (f:Nat->Int):I4 n n f=tab n f:=by
 apply oh
 .simp[I4,tab]
 .intro j q z;simp[I4,tab] at q⊢;intro h;omega
def Ia (n i:Nat) (f:Nat->Int):(I4 n i f).length=n:=by simp[I4,tab]
def acz (n i:Nat) (f:Nat->Int) (h:i<n):(I4 n i f).set i (f i)=I4 n (i+1) f:=by
 apply oh
 .simp[I4,tab]
 .intro j z B;simp only[I4,tab,List.getElem_set,lH,EA];by_cases e:i=j
  .subst e;simp
  .simp only[e,e8];by_cases q:j<i
   .simp[q,Nat.lt_succ_of_lt q]
   .have:¬j<i+1:=af
    simp[q,this]
def h29 (a b:W) (m:Nat) (z:m<=1073741824) (D:m<=a.length) (F:m<=b.length):∀(n i:Nat),m-i=n->i<=m->
  UQ a b m i (I4 m i λj=>HN (wd a j) (wd b j))=some (norm (tab m λj=>HN (wd a j) (wd b j))):=by
 intro n;induction n with
 |zero=>
  intro i hi q
  have:i=m:=af
  subst this;refine k29_3 ?_;rw[cond_neg ai,aag,c68 _ (by rw[tT];exact z)];rfl
 |succ n B=>intro i hi q;refine k29_3 ?_;rw[cond_pos aH,cR af,cR af,BF (by rw[Ia];omega),aS,mQ (by rw[Ia];omega),bJ af,Co,Co];have:=B (i+1) af af;rw[<-acz m i _ af] at this;exact this
def c29 (a b:W) (q:a.length<=1073741824) (z:b.length<=1073741824):f29 a b=some (norm (tab (min a.length b.length) λj=>HN (wd a j) (wd b j))):=by refine e29 ?_;simp only[minI,aS,mI];rw[b9 af];have:=h29 a b (min a.length b.length) af af af _ 0 rfl (cO _);rw[aah] at this;exact this
def G9 (a b:W):Bool:=(List.range a.length).all λj=>za (wd a j) (wd b j)==0
def uE (a b:W) (i:Nat):Bool:=(List.range' i (a.length-i)).all λj=>za (wd a j) (wd b j)==0
def QL (a b:W) (i:Nat) (h:a.length<=i):uE a b i=true:=by
 have:a.length-i=0:=af
 simp[uE,this]
def Ni (a b:W) (i:Nat) (h:i<a.length):uE a b i=(za (wd a i) (wd b i)==0&&uE a b (i+1)):=by
 have:a.length-i=(a.length-(i+1))+1:=af
 rw[uE,this,rZ,jG];rfl
def h63 (a b:W) (B:a.length<=1073741824):∀(n i:Nat),a.length-i=n->i<=a.length->Zn b a a.length i=some (uE a b i):=by intro n;induction n with
 |zero=>intro i hi q;refine k63_2 ?_;rw[cond_neg aH,QL a b i af]
 |succ n z=>
  intro i hi q;refine k63_2 ?_;rw[cond_pos aH,cR af,c107,ak,Ni a b i af,Co];by_cases h:za (wd a i) (wd b i)=0
  .rw[cond_neg (by simpa[za] using h),bJ af,z (i+1) af af];simp[h]
  .rw[cond_pos (by simpa[za] using h)];simp only[show(za (wd a i) (wd b i)==0)=false by simpa using h,sr]
theorem c63 (a b:W) (q:a.length<=1073741824):f63 a b=some (G9 a b):=by refine e63 ?_;rw[show G9 a b=uE a b 0 by simp[G9,uE,zA]];exact h63 a b q _ 0 rfl (cO _)
def YQ (b:W):∀n,nl b n=0↔∀j,j<n->wd b j=0
 |0=>by simp[nl]
 |n+1=>by
  unfold nl;split
  .rename_i h;rw[YQ b n];constructor
   .intro q j hj;by_cases e:j=n
    .subst e;exact h
    .exact q j af
   .intro q j hj;exact q j af
  .rename_i h;constructor
   .intro q;omega
   .intro q;exact absurd (q n af) h
def aeL (b:W):(norm b).length=0↔∀j,j<b.length->wd b j=0:=by rw[norm,dL,r5 (aeI b _),YQ]
theorem c65 (a b:W) (q:a.length<=1073741824):f65 a b=some (G9 a b):=by
 refine e65 ?_;rw[c108 a b q,ak];congr 1;rw[ia];have e:(((norm (tab a.length λj=>za (wd a j) (wd b j))).length:Int)==0)=((norm (tab a.length λj=>za (wd a j) (wd b j))).length==0):=by rw[ia];simp
 rw[e];simp only[jo,aeL,tT,G9,cv,gL];constructor
 .intro h j hj;have:=h j hj;rwa[afD,aC hj] at this
 .intro h j hj;rw[afD,aC hj];exact h j hj
def c102 (a b:W) (q:a.length<=1073741824) (z:b.length<=1073741824):f102 a b=some (G9 a b&&G9 b a):=by refine e102 ?_;rw[c65 a b q,c65 b a z];cases G9 a b<;>rfl
def h57 (a b:W) (z:a.length<=1073741824) (B:a.length=b.length):∀(xs:W) (i:Nat),a.drop i=xs->Zk a b i=some (decide (a.drop i=b.drop i)):=by intro xs;induction xs with
 |nil=>intro i h;refine k57_4 ?_;have:=j0 h;rw[bg h,au,h,sD af];simp
 |cons x xs F=>
  intro i h;refine k57_4 ?_;have D:=eM h;rw[aR h,aj,aK h,cR af,aN h z,h,jY (l:=b) (i:=i) af];have e:=F (i+1) (aI h);rw[aI h] at e;by_cases q:x=b[i]
  .rw[cond_neg (by simpa using q),e];simp only[q,c9,eS]
  .rw[cond_pos (by simpa using q)];simp only[c9,q,false_and,zB]
def c57 (a b:W) (q:a.length<=1073741824):f57 a b=some (decide (a=b)):=by
 refine e57 ?_;by_cases h:a.length=b.length
 .rw[cond_neg aH];exact h57 a b q h _ 0 rfl
 .rw[cond_pos aH]
  have:a≠b:=λe=>h (by rw[e])
  simp[this]
end Go.Proofs.YtacapiamkgkkjaaGreatDoor.cl
namespace Go.Proofs.YtacapiamkgkkjaaGreatDoor.cl
open Go Go.AM
def e1 (w:Nat):W:=if w=0 then[] else[(w:Int)]
theorem nH (w:Nat):(e1 w).length<=1:=by unfold e1;grind
theorem OC (w:Nat):wd (e1 w) 0=(w:Int):=by grind[e1,wd]
def Xw (w j:Nat):wd (e1 w) (j+1)=0:=Cp (by have:=nH w;omega)
theorem VJ {w v:Nat} (h:e1 w=e1 v):w=v:=by grind[OC]
theorem Gt {w v:Nat} (hw:w<18446744073709551616) (hv:v<18446744073709551616):HN (w:Int) (v:Int)=((w&&&v:Nat):Int):=by have h:w&&&v<=w:=sE;show wrap _ (((BitVec.ofNat 64 w&&&BitVec.ofNat _ v).toNat))=_;grind[AP]
def aeU {w v:Nat} (hw:w<18446744073709551616) (hv:v<18446744073709551616):w|||v<18446744073709551616:=by have:=Nat.or_lt_two_pow (n:=64) (x:=w) (y:=v) (by simpa using hw) (by simpa using hv);simpa using this
def aeT {w v:Nat} (hw:w<18446744073709551616) (hv:v<18446744073709551616):or64 (w:Int) (v:Int)=((w|||v:Nat):Int):=by have h:=aeU hw hv;show wrap _ (((BitVec.ofNat 64 w|||BitVec.ofNat _ v).toNat))=_;grind[AP]
theorem zb {w v:Nat} (hw:w<18446744073709551616) (hv:v<18446744073709551616):za (w:Int) (v:Int)=0↔sub w v=true:=by
 show wrap _ (((BitVec.ofNat 64 w&&& ~~~BitVec.ofNat _ v).toNat))=0↔_;rw[AP af af];have e:((((BitVec.ofNat 64 w&&& ~~~BitVec.ofNat _ v).toNat):Int)=0)↔(BitVec.ofNat 64 w&&& ~~~BitVec.ofNat _ v).toNat=0:=af;rw[e,kR];constructor
 .intro h i hi;have q:i<64:=by
   apply eH;intro z
   have:w.testBit i=false:=zD (fo (by omega:w<2^ 64) (sF af af))
   rw[this] at hi;cases hi
  have:=aU (λx=>x.testBit i) h;grind
 .intro h;apply vn;simp only[BitVec.testBit_toNat,BitVec.getLsbD_and,BitVec.getLsbD_not,BitVec.getLsbD_ofNat];simp_all
def aaE (f:Nat->Int):norm (tab 1 f)=if f 0=0 then[] else[f 0]:=by
 have:tab 1 f=[f 0]:=by simp[tab,lF]
 rw[this];unfold norm;simp only[dY,nl];have hw:wd [f 0] 0=f 0:=rfl;rw[hw];split<;>simp
theorem Uf {f:Nat->Int} {n w:Nat} (B:n<=1) (z:n=1->f 0=(w:Int)) (q:n=0->w=0):norm (tab n f)=e1 w:=by cases n with
 |zero=>rw[q rfl];rfl
 |succ n=>
  have:n=0:=af
  subst this;rw[aaE];simp_all[e1]
theorem EY {w:Nat} (h:(e1 w).length=0):w=0:=by simp_all[e1]
section
variable {w v:Nat} (hw:w<18446744073709551616) (hv:v<18446744073709551616)
include hw hv
theorem o61:f61 (e1 w) (e1 v)=some (e1 (w&&&v)):=by grind[nH,c61,Uf,OC,Gt,EY]
theorem o29:f29 (e1 w) (e1 v)=some (e1 (w&&&v)):=by
 have B:=nH w;have z:=nH v;rw[c29 _ _ af af];congr 1;refine Uf af (λ_=> ?_) (λh=> ?_)
 .rw[OC,OC,Gt hw hv]
 .by_cases q:(e1 w).length=0
  .rw[EY q];simp
  .rw[EY (show(e1 v).length=0 by omega)];simp
theorem Zd:G9 (e1 w) (e1 v)=sub w v:=by simp[G9];grind[e1,kR,OC,zb]
theorem o63:f63 (e1 w) (e1 v)=some (sub w v):=by grind[c63,nH,Zd]
theorem o65:f65 (e1 w) (e1 v)=some (sub w v):=by grind[c65,nH,Zd]
theorem o57:f57 (e1 w) (e1 v)=some (decide (w=v)):=by rw[c57 _ _ (by have:=nH w;omega)];congr 1;rw[qv];exact⟨VJ,λh=>by rw[h]⟩
end
def Ua {a b:W} (h:∀j,wd a j=wd b j):∀n,nl a n=nl b n
 |0=>rfl
 |n+1=>by unfold nl;rw[h n,Ua h n]
def aeH (a:W):∀n,a.length<=n->nl a n=nl a a.length:=by intro n z;induction n with
 |zero=>simp_all
 |succ n q=>
  by_cases h:a.length=n+1
  .rw[h]
  .rw[<-q af];show(if wd a n=0 then nl a n else n+1)=_;rw[aC (Cp af)]
def Ue {a b:W} (h:∀j,wd a j=wd b j):norm a=norm b:=by
 have q:nl a a.length=nl b b.length:=by rw[<-aeH a (max a.length _) af,<-aeH b (max _ b.length) af,Ua h]
 unfold norm;apply oh
 .grind[aeI]
 simp_all[Co]
theorem nl_pos {a:W}:∀n j,nl a n<=j->j<n->wd a j=0:=by intro n;induction n with
 |zero=>intro j _ h;omega
 |succ n z=>
  intro j q B;unfold nl at q;split at q
  .rename_i h;by_cases e:j=n
   .subst e;exact h
   .exact z j q af
  .omega
def ZD (a:W) (j:Nat):wd (norm a) j=wd a j:=by
 unfold norm;by_cases h:j<nl a a.length
 .rw[wd,bD,List.getElem?_take_of_lt h,wd,bD]
 grind[Cp,nl_pos]
theorem Jp (w:Nat):norm (e1 w)=e1 w:=by
 unfold e1;split
 .rfl
 .have:wd [(w)] 0=(w):=rfl
  simp_all[norm,nl]
def Wds (b:W):Prop:=∀x∈b,0<=x/\x<18446744073709551616
def RU {b:W} (h:Wds b) (j:Nat):∃w:Nat,wd b j=(w:Int)/\w<18446744073709551616:=by
 by_cases hj:j<b.length
 .have:=h _ (cG hj);rw[Co] at this;exact⟨(wd b j).toNat,by omega,af⟩
 .exact⟨0,by rw[Cp af];rfl,af⟩
def aaY {a b:W} (B:Wds a) (I:Wds b):(G9 a b&&G9 b a)=decide (norm a=norm b):=by
 rw[ia];simp[aT,mH,G9,cv,gL];constructor
 .rintro⟨F,G⟩;apply Ue;intro j;obtain⟨x,z,q⟩:=RU B j;obtain⟨y,D,K⟩:=RU I j;have L:sub x y=true:=by
   by_cases hj:j<a.length
   .have:=F j hj;simp_all[zb]
   .rw[Cp af] at z
    have:x=0:=af
    grind[kR]
  have N:sub y x=true:=by
   by_cases hj:j<b.length
   .have:=G j hj;simp_all[zb]
   .rw[Cp af] at D
    have:y=0:=af
    grind[kR]
  rw[z,D,tf L N]
 .intro h;have hw:∀j,wd a j=wd b j:=λj=>by rw[<-ZD a,h,ZD]
  constructor
  .intro j _;obtain⟨x,z,q⟩:=RU B j;simp_all[zb,zc]
  .intro j _;obtain⟨x,z,q⟩:=RU B j;simp_all[zb,zc]
def afE {w:Nat} (hw:w<18446744073709551616):Wds (e1 w):=by intro x q;unfold e1 at q;grind
structure Cd (l:List fT) (cs:List Nat):Prop where
 eq:l.map (·.Code)=cs.map e1
 lt:∀c∈cs,c<18446744073709551616
 len:cs.length<=1048576
def Cd.length {l:List fT} {cs:List Nat} (h:Cd l cs):l.length=cs.length:=by have:=aU List.length h.eq;simp_all
def Cd.code {l:List fT} {cs:List Nat} (h:Cd l cs) {i:Nat} (hi:i<l.length):l[i].Code=e1 (cs.getD i 0):=by
 have q:i<cs.length:=by rw[<-h.length];exact hi
 have:=aU (λm=>m[i]?) h.eq;simp only[dV,aM hi,aM q,ey,aW] at this;rw[this,bD,aM q];rfl
def Cd.get {l:List fT} {cs:List Nat} (h:Cd l cs) {i:Nat} (hi:i<cs.length):cs.getD i 0<18446744073709551616:=h.lt _ (mA hi)
def Cd.mem {l:List fT} {cs:List Nat} (h:Cd l cs) {x:fT} (q:x∈l):∃c,c∈cs/\x.Code=e1 c:=by
 have:x.Code∈l.map _:=jq q
 rw[h.eq] at this;grind
def h19 {l:List fT} (q:l.length<=1073741824) (z:∀x∈l,x.Code.length<=1073741824) (n:W):∀(xs:List fT) (i:Nat),l.drop i=xs->
  Zf l n i=some (jy (λx=>decide (x.Code=n)) xs i):=by
 intro xs;induction xs with
 |nil=>intro i h;refine k19_3 ?_;rw[bg h];rfl
 |cons x xs D=>
  intro i h;refine k19_3 ?_;have B:x∈l:=by rw[<-jZ i l,h];simp
  rw[aR h,aK h,c57 _ _ (z x B),aN h q,D _ (aI h),jy];grind
theorem c19 {l:List fT} {cs:List Nat} (H:Cd l cs) {code:W} (q:code.length<=1073741824):f19 l code=some (jy (λx=>decide (x.Code=norm code)) l 0):=by refine e19 ?_;rw[c60 _ q,ak];refine h19 (by have:=H.len;rw[H.length];omega) (λx z=> ?_) _ l 0 rfl;obtain⟨c,_,e⟩:=H.mem z;grind[nH]
def ix_fnd:∀(l:List fT) (cs:List Nat) (w i:Nat),l.map (·.Code)=cs.map e1->
  jy (λx=>decide (x.Code=e1 w)) l i=match cs.findIdx? (· ==w) with
   |some j=>((i+j:Nat):Int)
   |none=> -1:=by
 intro l;induction l with
 |nil=>intro cs w i h;cases cs with
  |nil=>rfl
  |cons c cs=>simp at h
 |cons x l D=>intro cs w i h;cases cs with
  |nil=>simp at h
  |cons c cs=>
   simp only[bM,c9] at h;rw[jy,D cs w (i+1) h.2,vg];by_cases e:c=w
   .subst e;simp[h.1]
   .have z:¬(x.Code=e1 w):=by rw[h.1];exact λq=>e (VJ q)
    have B:(c==w)=false:=by simpa using e
    simp only[z,zB,eG,e8,B];cases cs.findIdx? (· ==w) with
    |none=>rfl
    |some j=>
     show(((i+1)+j:Nat):Int)=((i+(j+1):Nat):Int)
     rw[kz,lQ 1 j]
theorem ix_fnd0 {l:List fT} {cs:List Nat} (H:Cd l cs) (w:Nat):jy (λx=>decide (x.Code=e1 w)) l 0=H9 cs w:=by rw[ix_fnd l cs w 0 H.eq,H9];cases cs.findIdx? (· ==w)<;>simp
def o19 {l:List fT} {cs:List Nat} (H:Cd l cs) (w:Nat):f19 l (e1 w)=some (H9 cs w):=by grind[c19,nH,Jp,ix_fnd0]
section
variable {l:List fT} {cs:List Nat} (H:Cd l cs) {i j:Nat} (hi:i<cs.length) (hj:j<cs.length)
include H hi hj
theorem o25:f25 l i j=some (sub (cs.getD j 0) (cs.getD i 0)):=by refine e25 ?_;have q:=H.length;rw[cR af,cR af,H.code,H.code,o65 (H.get hj) (H.get hi)];rfl
end
abbrev cast (l:List Nat):List Int:=l.map λn:Nat=>(n:Int)
def Gy {l:List Nat} {i:Nat} {x:Nat} {xs:List Nat} (h:l.drop i=x::xs):(cast l).drop i=(x:Int)::cast xs:=by rw[<-om,h];rfl
def abV {l:List Nat} {i:Nat} (h:l.drop i=[]):(cast l).drop i=[]:=by rw[<-om,h];rfl
def I7 (cs:List Nat) (i k m:Nat):Bool:=m==i||m==k|| !sub (cs.getD m 0) (cs.getD k 0)|| !sub (cs.getD i 0) (cs.getD m 0)
section
variable {l:List fT} {cs:List Nat} (H:Cd l cs)
include H
theorem h28b {i k:Nat} (hi:i<cs.length) (K:k<cs.length) {o:List Int} (N:o.length<=1073741824) {r:R28.T}:∀(n m:Nat) (q:Bool),cs.length-m=n->m<=cs.length->
  IU l i (k+1:Nat) (if(q&&(List.range' m (cs.length-m)).all (I7 cs i k))=true then o++[(k:Int)] else o)=some r->IV l i k q m o=some r:=by
 have I:=H.len;have P:=H.length;intro n;induction n with
 |zero=>
  intro m q L D h;refine k28_8 ?_
  have:m=cs.length:=af
  subst this;rw[cond_neg aH,bJ af];simp only[ot,List.range'_zero,List.all_nil,zm] at h;cases q with
  |true=>rw[aj,cF _ N ai af];simpa using h
  |false=>simpa using h
 |succ n B=>
  intro m q L D h;refine k28_8 ?_;have O:List.range' m (cs.length-m)=m::List.range' (m+1) (cs.length-(m+1)):=by rw[show cs.length-m=(cs.length-(m+1))+1 by omega,rZ]
  rw[O,jG] at h;have z:m<cs.length:=by omega
  rw[cond_pos aH,bJ af];cases q with
  |false=>rw[au];exact B (m+1) false af af (by simpa using h)
  |true=>
   rw[aj];by_cases e1:m=i
   .rw[cond_pos aH];refine B (m+1) true af af ?_
    have:I7 cs i k m=true:=by simp[I7,e1]
    rw[this,gM] at h;exact h
   .rw[cond_neg aH];by_cases F:m=k
    .rw[cond_pos aH];refine B (m+1) true af af ?_
     have:I7 cs i k m=true:=by simp[I7,F]
     rw[this,gM] at h;exact h
    .rw[cond_neg aH,o25 H K z,ak];cases G:sub (cs.getD m 0) (cs.getD k 0) with
     |false=>
      rw[fE,aj];refine B (m+1) true af af ?_
      have:I7 cs i k m=true:=by simp only[I7,G];simp
      rw[this,gM] at h;exact h
     |true=>
      rw[dr,au,o25 H z hi,ak];refine B (m+1) _ af af ?_
      have:I7 cs i k m= !sub (cs.getD i 0) (cs.getD m 0):=by simp only[I7,G];simp[e1,F]
      rw[this,gM] at h;exact h
def MR (cs:List Nat) (i:Nat) (k:Nat):Bool:=k !=i&&sub (cs.getD i 0) (cs.getD k 0)&&(List.range cs.length).all (I7 cs i k)
theorem h28a {i:Nat} (hi:i<cs.length):∀(n k:Nat) (q:List Nat),cs.length-k=n->k<=cs.length->q.length<=k->
  IU l i k (cast q)=some (cast (q++(List.range' k (cs.length-k)).filter (MR cs i))):=by
 have I:=H.len;have O:=H.length;intro n;induction n with
 |zero=>intro k q G D z;refine k28_3 ?_;rw[cond_neg aH,G];simp
 |succ n B=>
  intro k q G D z;refine k28_3 ?_;have N:List.range' k (cs.length-k)=k::List.range' (k+1) (cs.length-(k+1)):=by rw[show cs.length-k=(cs.length-(k+1))+1 by omega,rZ]
  rw[cond_pos aH,bJ af,N,oo];by_cases e:k=i
  .rw[cond_pos aH,B (k+1) q af af af]
   have:MR cs i k=false:=by simp[MR,e]
   rw[this];rfl
  .rw[cond_neg aH,o25 H af hi,ak];cases F:sub (cs.getD i 0) (cs.getD k 0) with
   |false=>
    rw[fE,aj,B (k+1) q af af af]
    have:MR cs i k=false:=by simp only[MR,F];simp
    rw[this];rfl
   |true=>
    rw[dr,au];refine h28b H hi af aH _ 0 true rfl af ?_;have K:MR cs i k=(List.range cs.length).all (I7 cs i k):=by simp only[MR,F];simp[e]
    rw[vo,<-zA,gM,<-K];cases L:MR cs i k with
    |true=>have:=B (k+1) (q++[k]) af af aH;simpa using this
    |false=>have:=B (k+1) q af af af;simpa using this
omit H in
theorem Z3 (i:Nat):(List.range cs.length).filter (MR cs i)=afe cs i:=by
 unfold afe Vi;rw[EB];apply mE;intro k P;rw[ia];simp only[MR,aT,cv,gL,gE,mD,dw,qs,ne_eq,I7,gC,jo];constructor
 .rintro⟨⟨q,z⟩,B⟩;refine⟨?_,q,z⟩;rintro m ⟨D,F,G⟩ ⟨I,K⟩;rcases B m D with((h|h)|h)|h
  .exact F h
  .exact I h
  .rw[K] at h;cases h
  .rw[G] at h;cases h
 .rintro⟨B,q,z⟩;refine⟨⟨q,z⟩,?_⟩;intro m D;by_cases e1:m=i
  .exact .inl (.inl (.inl e1))
  by_cases L:m=k
  .exact .inl (.inl (.inr L))
  cases N:sub (cs.getD m 0) (cs.getD k 0) with
  |false=>exact .inl (.inr rfl)
  |true=>cases O:sub (cs.getD i 0) (cs.getD m 0) with
   |false=>exact .inr rfl
   |true=>exact absurd ⟨L,N⟩ (B m ⟨D,e1,O⟩)
theorem o28 {i:Nat} (hi:i<cs.length):f28 l i=some (cast (afe cs i)):=by refine e28 ?_;have:=h28a H hi _ 0 [] rfl af ai;rw[vo,<-zA,Z3] at this;assumption
end
end Go.Proofs.YtacapiamkgkkjaaGreatDoor.cl
namespace Go.AM
abbrev bV:Type:=List UInt8
def SS (l:List bV):Prop:=l.Pairwise λa b=>Op.bytesLess a b=true
theorem By {a b:bV} (h:Op.bytesLess a b=true):a≠b:=λe=>by subst e;rw[yC] at h;cases h
def SS.nodup {l:List bV} (h:SS l):l.Nodup:=h.imp λh=>By h
def rP (s:bV):List bV->List bV
 |[]=>[s]
 |x::l=>if Op.bytesLess x s=true then x::rP s l else if x=s then x::l else s::x::l
def T0 {s y:bV}:∀{l:List bV},y∈rP s l↔y=s\/y∈l:=by intro l;induction l with
 |nil=>simp[rP]
 |cons x l q=>
  unfold rP;split
  .simp only[aJ,q];exact⟨λh=>h.elim (λh=> .inr (.inl h)) λh=>h.elim .inl λh=> .inr (.inr h),λh=>h.elim (λh=> .inr (.inl h)) λh=>h.elim .inl λh=> .inr (.inr h)⟩
  .split
   .rename_i h;subst h;simp
   .simp
def nY (s:bV):∀l:List bV,(rP s l).length<=l.length+1:=by intro l;induction l with
 |nil=>simp[rP]
 |cons x l q=>unfold rP;split<;>(try split)<;>simp<;>omega
def Uu {s:bV}:∀{l:List bV},SS l->SS (rP s l):=by intro l;induction l with
 |nil=>intro _;simp[rP,SS]
 |cons x l K=>
  intro h;have z:=c7.1 h;unfold rP;split
  .rename_i I;refine c7.2 ⟨?_,K z.2⟩;intro y q;rcases T0.1 q with rfl|q
   .exact I
   .exact z.1 y q
  .split
   .exact h
   .rename_i F G;have B:Op.bytesLess x s=false:=by simpa using F
    have D:=uq x s B G;refine c7.2 ⟨?_,h⟩;intro y q;rcases aJ.1 q with rfl|q
    .exact D
    .exact ri _ _ _ D (z.1 y q)
def pI (l:List bV):List bV:=l.foldl (λo s=>rP s o) []
def DX:∀(l o:List bV),SS o->SS (l.foldl (λo s=>rP s o) o)/\(∀y,y∈l.foldl (λo s=>rP s o) o↔y∈o\/y∈l)/\(l.foldl (λo s=>rP s o) o).length<=o.length+l.length:=by intro l;induction l with
 |nil=>intro o h;exact⟨h,λy=>by simp,ai⟩
 |cons x l D=>
  intro o h;obtain⟨q,z,B⟩:=D (rP x o) (Uu h);refine⟨q,λy=> ?_,?_⟩
  .show y∈List.foldl _ (rP x o) l↔_;rw[z,T0,aJ];exact⟨λh=>h.elim (λh=>h.elim (λh=> .inr (.inl h)) .inl) λh=> .inr (.inr h),λh=>h.elim (λh=> .inl (.inr h)) λh=>h.elim (λh=> .inl (.inl h)) .inr⟩
  .have:=nY x o;simp only[gA,bA] at B⊢;omega
theorem mX (l:List bV):SS (pI l):=(DX l [] (by simp[SS])).1
theorem gH {l:List bV} {y:bV}:y∈pI l↔y∈l:=by have:=(DX l [] (by simp[SS])).2.1 y;simpa[pI] using this
def qM (l:List bV):(pI l).length<=l.length:=by have:=(DX l [] (by simp[SS])).2.2;simpa[pI] using this
theorem SS.ext:∀{l m:List bV},SS l->SS m->(∀y,y∈l↔y∈m)->l=m:=by intro l;induction l with
 |nil=>intro m _ _ h;cases m with
  |nil=>rfl
  |cons y m=>exact absurd ((h y).2 ai) ai
 |cons x l R=>intro m N O h;cases m with
  |nil=>exact absurd ((h x).1 ai) ai
  |cons y m=>
   have D:=c7.1 N;have F:=c7.1 O;have G:x=y:=by
    rcases aJ.1 ((h x).1 ai) with e|P
    .exact e
    .rcases aJ.1 ((h y).2 ai) with e|Q
     .exact e.symm
     .have L:=F.1 x P;have K:=D.1 y Q;rw[yB L] at K;cases K
   subst G;congr 1;refine R D.2 F.2 λz=> ?_
   have I:=h z;simp only[aJ] at I;constructor
   .intro q;rcases I.1 (.inr q) with e|B
    .subst e;exact absurd rfl (By (D.1 z q))
    .exact B
   .intro B;rcases I.2 (.inr B) with e|q
    .subst e;exact absurd rfl (By (F.1 z B))
    .exact q
def jI {I:Type}:∀{l m:List I},l.Nodup->(∀x∈l,x∈m)->l.length<=m.length:=by intro l;induction l with
 |nil=>intro m _ _;simp
 |cons x l G=>
  intro m F B;have q:=gF.1 F;obtain⟨a,b,rfl⟩:=Ev (B x ai)
  have:=G (m:=a++b) q.2 (λy D=>by
   have z:=B y (by simp[D]);simp only[bf,aJ] at z⊢;rcases z with h|h|h
   .exact .inl h
   .subst h;exact absurd D q.1
   .exact .inr h)
  simp only[bA,bR] at this⊢;omega
def WR {K:Type} {l m:List K} (D:l.Nodup) (G:∀x∈l,x∈m) (z:m.length<=l.length):∀x∈m,x∈l:=by
 intro x I;apply eH;intro F;have B:(x::l).Nodup:=gF.2 ⟨F,D⟩
 have:=jI (m:=m) B (λy q=>by
  rcases aJ.1 q with rfl|q
  .exact I
  .exact G y q)
 simp at this;omega
def nh (o:List bV) (l:List bV):List bV:=l.foldl (λo y=>if y∈o then o else o++[y]) o
def Sb:∀(l o:List bV),(∀y,y∈nh o l↔y∈o\/y∈l)/\(o.Nodup->(nh o l).Nodup)/\∃e,nh o l=o++e:=by intro l;induction l with
 |nil=>intro o;exact⟨λy=>by simp[nh],λh=>h,[],by simp[nh]⟩
 |cons x l G=>
  intro o;by_cases q:x∈o
  .obtain⟨z,B,D⟩:=G o;have e:nh o (x::l)=nh o l:=by simp[nh,q]
   rw[e];refine⟨λy=> ?_,B,D⟩;rw[z,aJ];exact⟨λh=>h.elim .inl λh=> .inr (.inr h),λh=>h.elim .inl λh=>h.elim (λh=> .inl (h▸q)) .inr⟩
  .obtain⟨z,B,I,D⟩:=G (o++[x]);have e:nh o (x::l)=nh (o++[x]) l:=by simp[nh,q]
   rw[e];refine⟨λy=> ?_,λh=>B ?_,x::I,by rw[D];simp⟩
   .rw[z,aJ,bf,bZ];exact⟨λh=>h.elim (λh=>h.elim .inl λh=> .inr (.inl h)) λh=> .inr (.inr h),λh=>h.elim (λh=> .inl (.inl h)) λh=>h.elim (λh=> .inl (.inr h)) .inr⟩
   .rw[gW];exact⟨h,by simp,λa K b F=>by simp only[bZ] at F;subst F;exact λe=>q (e▸K)⟩
inductive tH (next:bV->List bV) (x:bV):bV->Prop
 |refl:tH next x x
 |step {y z:bV}:tH next x y->z∈next y->tH next x z
theorem tH.trans {next:bV->List bV} {x y z:bV} (q:tH next x y) (B:tH next y z):tH next x z:=by induction B with
 |refl=>exact q
 |step _ D F=>exact .step F D
def search {R:Type} {next:bV->List bV} {U:List bV} {K:bV} (h0:K∈U) (hU:∀x∈U,∀y∈next x,y∈U)
  {outer:Nat->List bV->Option R} {fin:List bV->Option R}
  (G:∀i o,o.length<=U.length->o.length<=i->∀r,fin o=some r->outer i o=some r)
  (O:∀i o x,o.length<=U.length->(nh o (next x)).length<=U.length->o[i]? =some x->x∈U->∀r,outer (i+1) (nh o (next x))=some r->outer i o=some r):
  ∃o:List bV,o.Nodup/\(∀y,y∈o↔tH next K y)/\o.length<=U.length/\∀r,fin o=some r->outer 0 [K]=some r:=by
 have key:∀(n i:Nat) (o:List bV),U.length-i=n->o.Nodup->K∈o->(∀y∈o,y∈U/\tH next K y)->(∀j y,j<i->o[j]? =some y->∀z∈next y,z∈o)->
   ∃S:List bV,S.Nodup/\(∀y,y∈S↔tH next K y)/\S.length<=U.length/\∀r,fin S=some r->outer i o=some r:=by
  intro n;induction n with
  |zero=>
   intro i o hn L hx N hc;have q:=jI L λy B=>(N y B).1
   refine⟨o,L,λy=>⟨λB=>(N y B).2,λF=> ?_⟩,q,λr F=>G i o q af r F⟩;induction F with
   |refl=>exact hx
   |step _ Q ih=>obtain⟨j,hj,e⟩:=iY.1 ih;exact hc j _ af (by rw[aM hj,e]) _ Q
  |succ n ih=>
   intro i o hn L hx N hc;have q:=jI L λy B=>(N y B).1
   by_cases hi:i<o.length
   .have I:o[i]? =some o[i]:=aM hi;have P:=N o[i] (cG hi);obtain⟨a1,a2,e,a3⟩:=Sb (next o[i]) o;have V:∀y∈nh o (next o[i]),y∈U/\tH next K y:=λy B=>by
     rcases(a1 y).1 B with h|h
     .exact N y h
     .exact⟨hU _ P.1 y h, .step P.2 h⟩
    obtain⟨S,r1,r2,r3,r4⟩:=ih (i+1) (nh o (next o[i])) af (a2 L) ((a1 _).2 (.inl hx)) V (λj y hj B z Q=>by
     by_cases hji:j<o.length
     .have D:o[j]? =some y:=by
       rw[a3,fM hji] at B;exact B
      by_cases e2:j=i
      .subst e2;rw[I] at D;injection D with D;subst D;exact(a1 z).2 (.inr Q)
      .exact(a1 z).2 (.inl (hc j y af D z Q))
     .omega)
    exact⟨S,r1,r2,r3,λr F=>O i o _ q (jI (a2 L) λy B=>(V y B).1) I P.1 r (r4 r F)⟩
   .refine⟨o,L,λy=>⟨λB=>(N y B).2,λF=> ?_⟩,q,λr F=>G i o q af r F⟩;induction F with
    |refl=>exact hx
    |step _ Q ih=>obtain⟨j,hj,e⟩:=iY.1 ih;exact hc j _ af (by rw[aM hj,e]) _ Q
 exact key _ 0 [K] rfl ai ai (λy B=>by simp only[bZ] at B;subst B;exact⟨h0, .refl⟩) (λj y hj=>by omega)
