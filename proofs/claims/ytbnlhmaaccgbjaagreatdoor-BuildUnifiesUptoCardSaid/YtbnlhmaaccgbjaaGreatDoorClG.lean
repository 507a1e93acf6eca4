/- The Closure laws, plain. -/
import Derived.Test.YtbnlhmaaccgbjaaGreatDoorAmP
import Derived.Test.YtbnlhmaaccgbjaaGreatDoorClF
import Derived.Test.YtbnlhmaaccgbjaaGreatDoorClO
set_option linter.all false
open Go.IntKind (wrap)
open BitVec (ofInt)
namespace Go.Proofs.YtbnlhmaaccgbjaaGreatDoor.cl
def sub (a b:Nat):Bool:=a&&&b==a
def Yt {a b:Nat}:sub a b=true↔a&&&b=a:=by simp[sub]
theorem kz {a b:Nat}:sub a b=true↔∀i,a.testBit i=true->b.testBit i=true:=by
 rw[Yt];constructor
 .intro h i hi;have:=aP (λx=>x.testBit i) h;simp only[lX,hi,gF] at this;exact this
 .intro h;apply uR;intro i;rw[lX];cases hi:a.testBit i with
  |false=>rfl
  |true=>rw[h i hi];rfl
def yM (a:Nat):sub a a=true:=kz.2 λ_ h=>h
def yN {a b c:Nat} (q:sub a b=true) (z:sub b c=true):sub a c=true:=kz.2 λi h=>kz.1 z i (kz.1 q i h)
def sG {a b:Nat} (q:sub a b=true) (z:sub b a=true):a=b:=by apply uR;intro i;rw[je];exact⟨kz.1 q i,kz.1 z i⟩
def FE (a b:Nat):sub (a&&&b) a=true:=kz.2 λi h=>by rw[lX,aS] at h;exact h.1
def MI (a b:Nat):sub (a&&&b) b=true:=kz.2 λi h=>by rw[lX,aS] at h;exact h.2
def Ys {a b c:Nat} (q:sub a b=true) (z:sub a c=true):sub a (b&&&c)=true:=kz.2 λi h=>by rw[lX,kz.1 q i h,kz.1 z i h];rfl
def Hz (cs:List Nat) (w:Nat):Int:=match cs.findIdx? (· ==w) with
 |some i=>(i:Int)
 |none=> -1
def Xj {cs:List Nat} {w:Nat} (h:w∉cs):Hz cs w= -1:=by
 have:cs.findIdx? (· ==w)=none:=by rw[Eh];intro x q;simp;intro e;subst e;exact h q
 simp[Hz,this]
def OF {cs:List Nat} {w:Nat} (h:w∈cs):∃i,i<cs.length/\cs.getD i 0=w/\Hz cs w=(i:Int):=by cases e:cs.findIdx? (· ==w) with
 |none=>rw[Eh] at e;have:=e w h;simp at this
 |some i=>
  rw[y6] at e;obtain⟨hi,q,_⟩:=e;refine⟨i,hi,?_,?_⟩
  .rw[bC,aK hi];simpa using q
  .have z:cs.findIdx? (· ==w)=some i:=by
    rw[y6];exact⟨hi,q,by assumption⟩
   simp[Hz,z]
theorem lS {cs:List Nat} {i:Nat} (h:i<cs.length):cs.getD i 0∈cs:=by rw[bC,aK h];exact cG h
theorem getD_inj {cs:List Nat} (nd:cs.Nodup) {i j:Nat} (hi:i<cs.length) (hj:j<cs.length) (h:cs.getD i 0=cs.getD j 0):i=j:=by rw[bC,bC,aK hi,aK hj] at h;exact(rT nd).1 h
structure aaC (cs:List Nat):Prop where
 nd:cs.Nodup
 nz:∀c∈cs,c≠0
 cl:∀a∈cs,∀b∈cs,a&&&b≠0->a&&&b∈cs
 top:∀c∈cs,sub c (cs.getD 0 0)=true
 pos:0<cs.length
 NQ:∀i j,i<cs.length->j<cs.length->sub (cs.getD j 0) (cs.getD i 0)=true->i<=j
def Uv (cs:List Nat) (i:Nat):List Nat:=(List.range cs.length).filter λk=>k !=i&&sub (cs.getD i 0) (cs.getD k 0)
def ad8 (cs:List Nat) (i:Nat):List Nat:=(Uv cs i).filter λk=> !(Uv cs i).any λm=>m !=k&&sub (cs.getD m 0) (cs.getD k 0)
end Go.Proofs.YtbnlhmaaccgbjaaGreatDoor.cl
namespace Go.Proofs.YtbnlhmaaccgbjaaGreatDoor.cl
open Go Go.AM
abbrev W:=List Int
def wd (b:W) (i:Nat):Int:=b.getD i 0
def nl (b:W):Nat->Nat
 |0=>0
 |n+1=>if wd b n=0 then nl b n else n+1
def norm (b:W):W:=b.take (nl b b.length)
def Hl (x y:Int):Int:=wrap .u64 ((ofInt (IntKind.bits .u64) x&&&ofInt (IntKind.bits .u64) y).toNat:Int)
def or64 (x y:Int):Int:=wrap .u64 ((ofInt (IntKind.bits .u64) x|||ofInt (IntKind.bits .u64) y).toNat:Int)
def yK (x y:Int):Int:=wrap .u64 ((ofInt (IntKind.bits .u64) x&&& ~~~ofInt (IntKind.bits .u64) y).toNat:Int)
theorem adH (b:W):∀n,nl b n<=n
 |0=>aU _
 |n+1=>by unfold nl;split;exact Nat.le_succ_of_le (adH b n);exact aU _
def Ch {b:W} {i:Nat} (h:i<b.length):b[i]=wd b i:=by simp[wd,bC,aK h]
theorem Ci {b:W} {i:Nat} (h:b.length<=i):wd b i=0:=by simp[wd,bC,gM h]
def c106 (b:W) (i:Nat):f106 b i=some (wd b i):=by
 refine e106 ?_;by_cases h:i<b.length
 .rw[cond_pos aH,cO h,Ch h]
 .rw[cond_neg aH,Ci af]
def c107 (b:W) (i:Nat):f107 b i=some (wd b i):=by
 refine e107 ?_;by_cases h:i<b.length
 .rw[cond_pos aH,cO h,Ch h]
 .rw[cond_neg aH,Ci af]
def h68 (b:W) (B:b.length<=1073741824):∀(n:Nat),n<=b.length->YE b n=some (b.take (nl b n)):=by intro n;induction n with
 |zero=>intro q;refine k68_2 ?_;rw[cond_neg ai,bU ai];simp[nl]
 |succ n z=>
  intro q;refine k68_2 ?_;rw[cond_pos ai,oz af,cO af,Ch];by_cases h:wd b n=0
  .rw[cond_pos (by simpa using h),z af];simp[nl,h]
  .rw[cond_neg (by simpa using h),bU aH]
   have:nl b (n+1)=n+1:=by simp[nl,h]
   simp[this]
def c68 (b:W) (q:b.length<=1073741824):f68 b=some (norm b):=e68 (h68 b q _ (aU _))
def h60 (b:W) (B:b.length<=1073741824):∀(n:Nat),n<=b.length->YB b n=some (b.take (nl b n)):=by intro n;induction n with
 |zero=>intro q;refine k60_2 ?_;rw[cond_neg ai,bU ai,bU ai];simp[nl]
 |succ n z=>
  intro q;refine k60_2 ?_;rw[cond_pos ai,oz af,cO af,Ch];by_cases h:wd b n=0
  .rw[cond_pos (by simpa using h),z af];simp[nl,h]
  .rw[cond_neg (by simpa using h),bU aH,bU aH]
   have:nl b (n+1)=n+1:=by simp[nl,h]
   simp[this]
def c60 (b:W) (q:b.length<=1073741824):f60 b=some (norm b):=e60 (h60 b q _ (aU _))
def FX (n:Nat) (f:Nat->Int):W:=(List.range n).map f
def T5 (n:Nat) (f:Nat->Int):FX (n+1) f=FX n f++[f n]:=by simp[FX,kP]
def s8 (n:Nat) (f:Nat->Int):(FX n f).length=n:=by simp[FX]
def aet (n:Nat) (f:Nat->Int) (i:Nat):wd (FX n f) i=if i<n then f i else 0:=by by_cases h:i<n<;>simp[wd,FX,bC,dN,uQ,h]
def h61 (a b:W) (z:a.length<=1073741824):∀(n i:Nat),a.length-i=n->i<=a.length->
  YC a b i (FX i λj=>Hl (wd a j) (wd b j))=some (norm (FX a.length λj=>Hl (wd a j) (wd b j))):=by
 intro n;induction n with
 |zero=>
  intro i hi q
  have:i=a.length:=af
  subst this;refine k61_3 ?_;rw[cond_neg ai,c60 _ (by rw[s8];exact z)];rfl
 |succ n B=>intro i hi q;refine k61_3 ?_;rw[cond_pos aH,cO af,c106,aj,cC _ (by rw[s8];omega) ai af,bP af,Ch];have:=B (i+1) af af;rw[T5] at this;exact this
theorem c61 (a b:W) (q:a.length<=1073741824):f61 a b=some (norm (FX a.length λj=>Hl (wd a j) (wd b j))):=
 e61 (h61 a b q _ 0 rfl (cW _))
def h108 (a b:W) (z:a.length<=1073741824):∀(n i:Nat),a.length-i=n->i<=a.length->
  P5 a b i (FX i λj=>yK (wd a j) (wd b j))=some (norm (FX a.length λj=>yK (wd a j) (wd b j))):=by
 intro n;induction n with
 |zero=>
  intro i hi q
  have:i=a.length:=af
  subst this;refine acd ?_;rw[cond_neg ai,c60 _ (by rw[s8];exact z)];rfl
 |succ n B=>intro i hi q;refine acd ?_;rw[cond_pos aH,cO af,c106,aj,cC _ (by rw[s8];omega) ai af,bP af,Ch];have:=B (i+1) af af;rw[T5] at this;exact this
def c108 (a b:W) (q:a.length<=1073741824):f108 a b=some (norm (FX a.length λj=>yK (wd a j) (wd b j))):=
 e108 (h108 a b q _ 0 rfl (cW _))
def minI (x y:Nat):(if(y:Int)<(x:Int) then(y:Int) else(x:Int))=((min x y:Nat):Int):=by split<;>omega
def Iu (n i:Nat) (f:Nat->Int):W:=FX n λj=>if j<i then f j else 0
def Zv (n:Nat) (f:Nat->Int):Iu n 0 f=List.replicate n 0:=by apply nN<;>simp[Iu,FX]
def Zu (n:Nat) (f:Nat->Int):Iu n n f=FX n f:=by
 apply nN
 .simp[Iu,FX]
 .intro j q z;simp[Iu,FX] at q⊢;intro h;omega
def HA (n i:Nat) (f:Nat->Int):(Iu n i f).length=n:=by simp[Iu,FX]
def abE (n i:Nat) (f:Nat->Int) (h:i<n):(Iu n i f).set i (f i)=Iu n (i+1) f:=by
 apply nN
 .simp[Iu,FX]
 .intro j z B;simp only[Iu,FX,List.getElem_set,kQ,Ei];by_cases e:i=j
  .subst e;simp
  .simp only[e,eP];by_cases q:j<i
   .simp[q,Nat.lt_succ_of_lt q]
   .have:¬j<i+1:=af
    simp[q,this]
def h29 (a b:W) (m:Nat) (z:m<=1073741824) (D:m<=a.length) (F:m<=b.length):∀(n i:Nat),m-i=n->i<=m->
  T0 a b m i (Iu m i λj=>Hl (wd a j) (wd b j))=some (norm (FX m λj=>Hl (wd a j) (wd b j))):=by
 intro n;induction n with
 |zero=>
  intro i hi q
  have:i=m:=af
  subst this;refine k29_3 ?_;rw[cond_neg ai,Zu,c68 _ (by rw[s8];exact z)];rfl
 |succ n B=>intro i hi q;refine k29_3 ?_;rw[cond_pos aH,cO af,cO af,Bu (by rw[HA];omega),bg,tf (by rw[HA];omega),bP af,Ch,Ch];have:=B (i+1) af af;rw[<-abE m i _ af] at this;exact this
def c29 (a b:W) (q:a.length<=1073741824) (z:b.length<=1073741824):f29 a b=some (norm (FX (min a.length b.length) λj=>Hl (wd a j) (wd b j))):=by refine e29 ?_;simp only[minI,bg,rS];rw[bU af];have:=h29 a b (min a.length b.length) af af af _ 0 rfl (cW _);rw[Zv] at this;exact this
def GM (a b:W):Bool:=(List.range a.length).all λj=>yK (wd a j) (wd b j)==0
def ua (a b:W) (i:Nat):Bool:=(List.range' i (a.length-i)).all λj=>yK (wd a j) (wd b j)==0
def P0 (a b:W) (i:Nat) (h:a.length<=i):ua a b i=true:=by
 have:a.length-i=0:=af
 simp[ua,this]
def MJ (a b:W) (i:Nat) (h:i<a.length):ua a b i=(yK (wd a i) (wd b i)==0&&ua a b (i+1)):=by
 have:a.length-i=(a.length-(i+1))+1:=af
 rw[ua,this,q9,jC];rfl
def h63 (a b:W) (B:a.length<=1073741824):∀(n i:Nat),a.length-i=n->i<=a.length->YD b a a.length i=some (ua a b i):=by intro n;induction n with
 |zero=>intro i hi q;refine k63_2 ?_;rw[cond_neg aH,P0 a b i af]
 |succ n z=>
  intro i hi q;refine k63_2 ?_;rw[cond_pos aH,cO af,c107,aj,MJ a b i af,Ch];by_cases h:yK (wd a i) (wd b i)=0
  .rw[cond_neg (by simpa[yK] using h),bP af,z (i+1) af af];simp[h]
  .rw[cond_pos (by simpa[yK] using h)];simp only[show(yK (wd a i) (wd b i)==0)=false by simpa using h,pY]
theorem c63 (a b:W) (q:a.length<=1073741824):f63 a b=some (GM a b):=by refine e63 ?_;rw[show GM a b=ua a b 0 by simp[GM,ua,zb]];exact h63 a b q _ 0 rfl (cW _)
def X5 (b:W):∀n,nl b n=0↔∀j,j<n->wd b j=0
 |0=>by simp[nl]
 |n+1=>by
  unfold nl;split
  .rename_i h;rw[X5 b n];constructor
   .intro q j hj;by_cases e:j=n
    .subst e;exact h
    .exact q j af
   .intro q j hj;exact q j af
  .rename_i h;constructor
   .intro q;omega
   .intro q;exact absurd (q n af) h
def adK (b:W):(norm b).length=0↔∀j,j<b.length->wd b j=0:=by rw[norm,fJ,wP (adH b _),X5]
theorem c65 (a b:W) (q:a.length<=1073741824):f65 a b=some (GM a b):=by
 refine e65 ?_;rw[c108 a b q,aj];congr 1;rw[je];have e:(((norm (FX a.length λj=>yK (wd a j) (wd b j))).length:Int)==0)=((norm (FX a.length λj=>yK (wd a j) (wd b j))).length==0):=by rw[je];simp
 rw[e];simp only[jf,adK,s8,GM,cH,gL];constructor
 .intro h j hj;have:=h j hj;rwa[aet,aB hj] at this
 .intro h j hj;rw[aet,aB hj];exact h j hj
def c102 (a b:W) (q:a.length<=1073741824) (z:b.length<=1073741824):f102 a b=some (GM a b&&GM b a):=by refine e102 ?_;rw[c65 a b q,c65 b a z];cases GM a b<;>rfl
def h57 (a b:W) (z:a.length<=1073741824) (B:a.length=b.length):∀(xs:W) (i:Nat),a.drop i=xs->YA a b i=some (decide (a.drop i=b.drop i)):=by intro xs;induction xs with
 |nil=>intro i h;refine k57_4 ?_;have:=mT h;rw[bq h,az,h,rU af];simp
 |cons x xs F=>
  intro i h;refine k57_4 ?_;have D:=eF h;rw[aV h,ak,aM h,cO af,aR h z,h,iJ (l:=b) (i:=i) af];have e:=F (i+1) (aI h);rw[aI h] at e;by_cases q:x=b[i]
  .rw[cond_neg (by simpa using q),e];simp only[q,cS,eE]
  .rw[cond_pos (by simpa using q)];simp only[cS,q,false_and,zc]
def c57 (a b:W) (q:a.length<=1073741824):f57 a b=some (decide (a=b)):=by
 refine e57 ?_;by_cases h:a.length=b.length
 .rw[cond_neg aH];exact h57 a b q h _ 0 rfl
 .rw[cond_pos aH]
  have:a≠b:=λe=>h (by rw[e])
  simp[this]
end Go.Proofs.YtbnlhmaaccgbjaaGreatDoor.cl
namespace Go.Proofs.YtbnlhmaaccgbjaaGreatDoor.cl
open Go Go.AM
def e1 (w:Nat):W:=if w=0 then[] else[(w:Int)]
theorem mX (w:Nat):(e1 w).length<=1:=by unfold e1;grind
theorem NZ (w:Nat):wd (e1 w) 0=(w:Int):=by grind[e1,wd]
def WK (w j:Nat):wd (e1 w) (j+1)=0:=Ci (by have:=mX w;omega)
theorem UY {w v:Nat} (h:e1 w=e1 v):w=v:=by grind[NZ]
theorem Ga {w v:Nat} (hw:w<18446744073709551616) (hv:v<18446744073709551616):Hl (w:Int) (v:Int)=((w&&&v:Nat):Int):=by have h:w&&&v<=w:=rV;show wrap _ (((BitVec.ofNat 64 w&&&BitVec.ofNat _ v).toNat))=_;grind[Av]
def adS {w v:Nat} (hw:w<18446744073709551616) (hv:v<18446744073709551616):w|||v<18446744073709551616:=by have:=Nat.or_lt_two_pow (n:=64) (x:=w) (y:=v) (by simpa using hw) (by simpa using hv);simpa using this
def adR {w v:Nat} (hw:w<18446744073709551616) (hv:v<18446744073709551616):or64 (w:Int) (v:Int)=((w|||v:Nat):Int):=by have h:=adS hw hv;show wrap _ (((BitVec.ofNat 64 w|||BitVec.ofNat _ v).toNat))=_;grind[Av]
theorem yL {w v:Nat} (hw:w<18446744073709551616) (hv:v<18446744073709551616):yK (w:Int) (v:Int)=0↔sub w v=true:=by
 show wrap _ (((BitVec.ofNat 64 w&&& ~~~BitVec.ofNat _ v).toNat))=0↔_;rw[Av af af];have e:((((BitVec.ofNat 64 w&&& ~~~BitVec.ofNat _ v).toNat):Int)=0)↔(BitVec.ofNat 64 w&&& ~~~BitVec.ofNat _ v).toNat=0:=af;rw[e,kz];constructor
 .intro h i hi;have q:i<64:=by
   apply eB;intro z
   have:w.testBit i=false:=ze (e8 (by omega:w<2^ 64) (uS af af))
   rw[this] at hi;cases hi
  have:=aP (λx=>x.testBit i) h;grind
 .intro h;apply uR;simp only[BitVec.testBit_toNat,BitVec.getLsbD_and,BitVec.getLsbD_not,BitVec.getLsbD_ofNat];simp_all
def ZR (f:Nat->Int):norm (FX 1 f)=if f 0=0 then[] else[f 0]:=by
 have:FX 1 f=[f 0]:=by simp[FX,kP]
 rw[this];unfold norm;simp only[c7,nl];have hw:wd [f 0] 0=f 0:=rfl;rw[hw];split<;>simp
theorem Ti {f:Nat->Int} {n w:Nat} (B:n<=1) (z:n=1->f 0=(w:Int)) (q:n=0->w=0):norm (FX n f)=e1 w:=by cases n with
 |zero=>rw[q rfl];rfl
 |succ n=>
  have:n=0:=af
  subst this;rw[ZR];simp_all[e1]
theorem EH {w:Nat} (h:(e1 w).length=0):w=0:=by simp_all[e1]
section
variable {w v:Nat} (hw:w<18446744073709551616) (hv:v<18446744073709551616)
include hw hv
theorem o61:f61 (e1 w) (e1 v)=some (e1 (w&&&v)):=by grind[mX,c61,Ti,NZ,Ga,EH]
theorem ZT:f29 (e1 w) (e1 v)=some (e1 (w&&&v)):=by
 have B:=mX w;have z:=mX v;rw[c29 _ _ af af];congr 1;refine Ti af (λ_=> ?_) (λh=> ?_)
 .rw[NZ,NZ,Ga hw hv]
 .by_cases q:(e1 w).length=0
  .rw[EH q];simp
  .rw[EH (show(e1 v).length=0 by omega)];simp
theorem Yu:GM (e1 w) (e1 v)=sub w v:=by simp[GM];grind[e1,kz,NZ,yL]
theorem o63:f63 (e1 w) (e1 v)=some (sub w v):=by grind[c63,mX,Yu]
theorem o65:f65 (e1 w) (e1 v)=some (sub w v):=by grind[c65,mX,Yu]
theorem o57:f57 (e1 w) (e1 v)=some (decide (w=v)):=by rw[c57 _ _ (by have:=mX w;omega)];congr 1;rw[p7];exact⟨UY,λh=>by rw[h]⟩
end
def Te {a b:W} (h:∀j,wd a j=wd b j):∀n,nl a n=nl b n
 |0=>rfl
 |n+1=>by unfold nl;rw[h n,Te h n]
def adG (a:W):∀n,a.length<=n->nl a n=nl a a.length:=by intro n z;induction n with
 |zero=>simp_all
 |succ n q=>
  by_cases h:a.length=n+1
  .rw[h]
  .rw[<-q af];show(if wd a n=0 then nl a n else n+1)=_;rw[aB (Ci af)]
def Th {a b:W} (h:∀j,wd a j=wd b j):norm a=norm b:=by
 have q:nl a a.length=nl b b.length:=by rw[<-adG a (max a.length _) af,<-adG b (max _ b.length) af,Te h]
 unfold norm;apply nN
 .grind[adH]
 simp_all[Ch]
theorem nl_pos {a:W}:∀n j,nl a n<=j->j<n->wd a j=0:=by intro n;induction n with
 |zero=>intro j _ h;omega
 |succ n z=>
  intro j q B;unfold nl at q;split at q
  .rename_i h;by_cases e:j=n
   .subst e;exact h
   .exact z j q af
  .omega
def YS (a:W) (j:Nat):wd (norm a) j=wd a j:=by
 unfold norm;by_cases h:j<nl a a.length
 .rw[wd,bC,List.getElem?_take_of_lt h,wd,bC]
 grind[Ci,nl_pos]
theorem IW (w:Nat):norm (e1 w)=e1 w:=by
 unfold e1;split
 .rfl
 .have:wd [(w)] 0=(w):=rfl
  simp_all[norm,nl]
def Wds (b:W):Prop:=∀x∈b,0<=x/\x<18446744073709551616
def QY {b:W} (h:Wds b) (j:Nat):∃w:Nat,wd b j=(w:Int)/\w<18446744073709551616:=by
 by_cases hj:j<b.length
 .have:=h _ (cG hj);rw[Ch] at this;exact⟨(wd b j).toNat,by omega,af⟩
 .exact⟨0,by rw[Ci af];rfl,af⟩
def aaa {a b:W} (B:Wds a) (I:Wds b):(GM a b&&GM b a)=decide (norm a=norm b):=by
 rw[je];simp[aS,nM,GM,cH,gL];constructor
 .rintro⟨F,G⟩;apply Th;intro j;obtain⟨x,z,q⟩:=QY B j;obtain⟨y,D,K⟩:=QY I j;have L:sub x y=true:=by
   by_cases hj:j<a.length
   .have:=F j hj;simp_all[yL]
   .rw[Ci af] at z
    have:x=0:=af
    grind[kz]
  have N:sub y x=true:=by
   by_cases hj:j<b.length
   .have:=G j hj;simp_all[yL]
   .rw[Ci af] at D
    have:y=0:=af
    grind[kz]
  rw[z,D,sG L N]
 .intro h;have hw:∀j,wd a j=wd b j:=λj=>by rw[<-YS a,h,YS]
  constructor
  .intro j _;obtain⟨x,z,q⟩:=QY B j;simp_all[yL,yM]
  .intro j _;obtain⟨x,z,q⟩:=QY B j;simp_all[yL,yM]
def aeu {w:Nat} (hw:w<18446744073709551616):Wds (e1 w):=by intro x q;unfold e1 at q;grind
structure Cd (l:List fQ) (cs:List Nat):Prop where
 eq:l.map (·.Code)=cs.map e1
 lt:∀c∈cs,c<18446744073709551616
 len:cs.length<=1048576
def Cd.length {l:List fQ} {cs:List Nat} (h:Cd l cs):l.length=cs.length:=by have:=aP List.length h.eq;simp_all
def Cd.code {l:List fQ} {cs:List Nat} (h:Cd l cs) {i:Nat} (hi:i<l.length):l[i].Code=e1 (cs.getD i 0):=by
 have q:i<cs.length:=by rw[<-h.length];exact hi
 have:=aP (λm=>m[i]?) h.eq;simp only[dN,aK hi,aK q,dX,aW] at this;rw[this,bC,aK q];rfl
def Cd.get {l:List fQ} {cs:List Nat} (h:Cd l cs) {i:Nat} (hi:i<cs.length):cs.getD i 0<18446744073709551616:=h.lt _ (lS hi)
def Cd.mem {l:List fQ} {cs:List Nat} (h:Cd l cs) {x:fQ} (q:x∈l):∃c,c∈cs/\x.Code=e1 c:=by
 have:x.Code∈l.map _:=iK q
 rw[h.eq] at this;grind
def h19 {l:List fQ} (q:l.length<=1073741824) (z:∀x∈l,x.Code.length<=1073741824) (n:W):∀(xs:List fQ) (i:Nat),l.drop i=xs->
  Yx l n i=some (jo (λx=>decide (x.Code=n)) xs i):=by
 intro xs;induction xs with
 |nil=>intro i h;refine k19_3 ?_;rw[bq h];rfl
 |cons x xs D=>
  intro i h;refine k19_3 ?_;have B:x∈l:=by rw[<-lY i l,h];simp
  rw[aV h,aM h,c57 _ _ (z x B),aR h q,D _ (aI h),jo];grind
theorem c19 {l:List fQ} {cs:List Nat} (H:Cd l cs) {code:W} (q:code.length<=1073741824):f19 l code=some (jo (λx=>decide (x.Code=norm code)) l 0):=by refine e19 ?_;rw[c60 _ q,aj];refine h19 (by have:=H.len;rw[H.length];omega) (λx z=> ?_) _ l 0 rfl;obtain⟨c,_,e⟩:=H.mem z;grind[mX]
def ix_fnd:∀(l:List fQ) (cs:List Nat) (w i:Nat),l.map (·.Code)=cs.map e1->
  jo (λx=>decide (x.Code=e1 w)) l i=match cs.findIdx? (· ==w) with
   |some j=>((i+j:Nat):Int)
   |none=> -1:=by
 intro l;induction l with
 |nil=>intro cs w i h;cases cs with
  |nil=>rfl
  |cons c cs=>simp at h
 |cons x l D=>intro cs w i h;cases cs with
  |nil=>simp at h
  |cons c cs=>
   simp only[bw,cS] at h;rw[jo,D cs w (i+1) h.2,uM];by_cases e:c=w
   .subst e;simp[h.1]
   .have z:¬(x.Code=e1 w):=by rw[h.1];exact λq=>e (UY q)
    have B:(c==w)=false:=by simpa using e
    simp only[z,zc,ey,eP,B];cases cs.findIdx? (· ==w) with
    |none=>rfl
    |some j=>
     show(((i+1)+j:Nat):Int)=((i+(j+1):Nat):Int)
     rw[kX,kY 1 j]
theorem ix_fnd0 {l:List fQ} {cs:List Nat} (H:Cd l cs) (w:Nat):jo (λx=>decide (x.Code=e1 w)) l 0=Hz cs w:=by rw[ix_fnd l cs w 0 H.eq,Hz];cases cs.findIdx? (· ==w)<;>simp
def o19 {l:List fQ} {cs:List Nat} (H:Cd l cs) (w:Nat):f19 l (e1 w)=some (Hz cs w):=by grind[c19,mX,IW,ix_fnd0]
section
variable {l:List fQ} {cs:List Nat} (H:Cd l cs) {i j:Nat} (hi:i<cs.length) (hj:j<cs.length)
include H hi hj
theorem o25:f25 l i j=some (sub (cs.getD j 0) (cs.getD i 0)):=by refine e25 ?_;have q:=H.length;rw[cO af,cO af,H.code,H.code,o65 (H.get hj) (H.get hi)];rfl
end
abbrev cast (l:List Nat):List Int:=l.map λn:Nat=>(n:Int)
def Gf {l:List Nat} {i:Nat} {x:Nat} {xs:List Nat} (h:l.drop i=x::xs):(cast l).drop i=(x:Int)::cast xs:=by rw[<-pZ,h];rfl
def aa4 {l:List Nat} {i:Nat} (h:l.drop i=[]):(cast l).drop i=[]:=by rw[<-pZ,h];rfl
def Iy (cs:List Nat) (i k m:Nat):Bool:=m==i||m==k|| !sub (cs.getD m 0) (cs.getD k 0)|| !sub (cs.getD i 0) (cs.getD m 0)
section
variable {l:List fQ} {cs:List Nat} (H:Cd l cs)
include H
theorem h28b {i k:Nat} (hi:i<cs.length) (K:k<cs.length) {o:List Int} (N:o.length<=1073741824) {r:R28.T}:∀(n m:Nat) (q:Bool),cs.length-m=n->m<=cs.length->
  Ih l i (k+1:Nat) (if(q&&(List.range' m (cs.length-m)).all (Iy cs i k))=true then o++[(k:Int)] else o)=some r->Ii l i k q m o=some r:=by
 have I:=H.len;have P:=H.length;intro n;induction n with
 |zero=>
  intro m q L D h;refine k28_8 ?_
  have:m=cs.length:=af
  subst this;rw[cond_neg aH,bP af];simp only[nS,List.range'_zero,List.all_nil,rH] at h;cases q with
  |true=>rw[ak,cC _ N ai af];simpa using h
  |false=>simpa using h
 |succ n B=>
  intro m q L D h;refine k28_8 ?_;have O:List.range' m (cs.length-m)=m::List.range' (m+1) (cs.length-(m+1)):=by rw[show cs.length-m=(cs.length-(m+1))+1 by omega,q9]
  rw[O,jC] at h;have z:m<cs.length:=by omega
  rw[cond_pos aH,bP af];cases q with
  |false=>rw[az];exact B (m+1) false af af (by simpa using h)
  |true=>
   rw[ak];by_cases e1:m=i
   .rw[cond_pos aH];refine B (m+1) true af af ?_
    have:Iy cs i k m=true:=by simp[Iy,e1]
    rw[this,gF] at h;exact h
   .rw[cond_neg aH];by_cases F:m=k
    .rw[cond_pos aH];refine B (m+1) true af af ?_
     have:Iy cs i k m=true:=by simp[Iy,F]
     rw[this,gF] at h;exact h
    .rw[cond_neg aH,o25 H K z,aj];cases G:sub (cs.getD m 0) (cs.getD k 0) with
     |false=>
      rw[eM,ak];refine B (m+1) true af af ?_
      have:Iy cs i k m=true:=by simp only[Iy,G];simp
      rw[this,gF] at h;exact h
     |true=>
      rw[dx,az,o25 H z hi,aj];refine B (m+1) _ af af ?_
      have:Iy cs i k m= !sub (cs.getD i 0) (cs.getD m 0):=by simp only[Iy,G];simp[e1,F]
      rw[this,gF] at h;exact h
def Mk (cs:List Nat) (i:Nat) (k:Nat):Bool:=k !=i&&sub (cs.getD i 0) (cs.getD k 0)&&(List.range cs.length).all (Iy cs i k)
theorem h28a {i:Nat} (hi:i<cs.length):∀(n k:Nat) (q:List Nat),cs.length-k=n->k<=cs.length->q.length<=k->
  Ih l i k (cast q)=some (cast (q++(List.range' k (cs.length-k)).filter (Mk cs i))):=by
 have I:=H.len;have O:=H.length;intro n;induction n with
 |zero=>intro k q G D z;refine k28_3 ?_;rw[cond_neg aH,G];simp
 |succ n B=>
  intro k q G D z;refine k28_3 ?_;have N:List.range' k (cs.length-k)=k::List.range' (k+1) (cs.length-(k+1)):=by rw[show cs.length-k=(cs.length-(k+1))+1 by omega,q9]
  rw[cond_pos aH,bP af,N,nQ];by_cases e:k=i
  .rw[cond_pos aH,B (k+1) q af af af]
   have:Mk cs i k=false:=by simp[Mk,e]
   rw[this];rfl
  .rw[cond_neg aH,o25 H af hi,aj];cases F:sub (cs.getD i 0) (cs.getD k 0) with
   |false=>
    rw[eM,ak,B (k+1) q af af af]
    have:Mk cs i k=false:=by simp only[Mk,F];simp
    rw[this];rfl
   |true=>
    rw[dx,az];refine h28b H hi af aH _ 0 true rfl af ?_;have K:Mk cs i k=(List.range cs.length).all (Iy cs i k):=by simp only[Mk,F];simp[e]
    rw[uT,<-zb,gF,<-K];cases L:Mk cs i k with
    |true=>have:=B (k+1) (q++[k]) af af aH;simpa using this
    |false=>have:=B (k+1) q af af af;simpa using this
omit H in
theorem Zh (i:Nat):(List.range cs.length).filter (Mk cs i)=ad8 cs i:=by
 unfold ad8 Uv;rw[Ej];apply lU;intro k P;rw[je];simp only[Mk,aS,cH,gL,gW,uG,c4,nP,ne_eq,Iy,gK,jf];constructor
 .rintro⟨⟨q,z⟩,B⟩;refine⟨?_,q,z⟩;rintro m ⟨D,F,G⟩ ⟨I,K⟩;rcases B m D with((h|h)|h)|h
  .exact F h
  .exact I h
  .rw[K] at h;cases h
  .rw[G] at h;cases h
 .rintro⟨B,q,z⟩;refine⟨⟨q,z⟩,?_⟩;intro m D;by_cases e1:m=i
  .exact .inl (.inl (.inl e1))
  by_cases L:m=k
  .exact .inl (.inl (.inr L))
  cases N:sub (cs.getD m 0) (cs.getD k 0) with
  |false=>exact .inl (.inr rfl)
  |true=>cases O:sub (cs.getD i 0) (cs.getD m 0) with
   |false=>exact .inr rfl
   |true=>exact absurd ⟨L,N⟩ (B m ⟨D,e1,O⟩)
theorem o28 {i:Nat} (hi:i<cs.length):f28 l i=some (cast (ad8 cs i)):=by refine e28 ?_;have:=h28a H hi _ 0 [] rfl af ai;rw[uT,<-zb,Zh] at this;assumption
end
end Go.Proofs.YtbnlhmaaccgbjaaGreatDoor.cl
namespace Go.AM
abbrev b9:Type:=List UInt8
def SS (l:List b9):Prop:=l.Pairwise λa b=>Op.bytesLess a b=true
def JL {a b:b9} (h:Op.bytesLess a b=true):a≠b:=λe=>by subst e;rw[Cm] at h;cases h
def SS.nodup {l:List b9} (h:SS l):l.Nodup:=h.imp λh=>JL h
def qS (s:b9):List b9->List b9
 |[]=>[s]
 |x::l=>if Op.bytesLess x s=true then x::qS s l else if x=s then x::l else s::x::l
def S5 {s y:b9}:∀{l:List b9},y∈qS s l↔y=s\/y∈l:=by intro l;induction l with
 |nil=>simp[qS]
 |cons x l q=>
  unfold qS;split
  .simp only[aJ,q];exact⟨λh=>h.elim (λh=> .inr (.inl h)) λh=>h.elim .inl λh=> .inr (.inr h),λh=>h.elim (λh=> .inr (.inl h)) λh=>h.elim .inl λh=> .inr (.inr h)⟩
  .split
   .rename_i h;subst h;simp
   .simp
def nC (s:b9):∀l:List b9,(qS s l).length<=l.length+1:=by intro l;induction l with
 |nil=>simp[qS]
 |cons x l q=>unfold qS;split<;>(try split)<;>simp<;>omega
def Ty {s:b9}:∀{l:List b9},SS l->SS (qS s l):=by intro l;induction l with
 |nil=>intro _;simp[qS,SS]
 |cons x l K=>
  intro h;have z:=dG.1 h;unfold qS;split
  .rename_i I;refine dG.2 ⟨?_,K z.2⟩;intro y q;rcases S5.1 q with rfl|q
   .exact I
   .exact z.1 y q
  .split
   .exact h
   .rename_i F G;have B:Op.bytesLess x s=false:=by simpa using F
    have D:=Bk x s B G;refine dG.2 ⟨?_,h⟩;intro y q;rcases aJ.1 q with rfl|q
    .exact D
    .exact vI _ _ _ D (z.1 y q)
def oK (l:List b9):List b9:=l.foldl (λo s=>qS s o) []
def DI:∀(l o:List b9),SS o->SS (l.foldl (λo s=>qS s o) o)/\(∀y,y∈l.foldl (λo s=>qS s o) o↔y∈o\/y∈l)/\(l.foldl (λo s=>qS s o) o).length<=o.length+l.length:=by intro l;induction l with
 |nil=>intro o h;exact⟨h,λy=>by simp,ai⟩
 |cons x l D=>
  intro o h;obtain⟨q,z,B⟩:=D (qS x o) (Ty h);refine⟨q,λy=> ?_,?_⟩
  .show y∈List.foldl _ (qS x o) l↔_;rw[z,S5,aJ];exact⟨λh=>h.elim (λh=>h.elim (λh=> .inr (.inl h)) .inl) λh=> .inr (.inr h),λh=>h.elim (λh=> .inl (.inr h)) λh=>h.elim (λh=> .inl (.inl h)) .inr⟩
  .have:=nC x o;simp only[gJ,bp] at B⊢;omega
theorem mC (l:List b9):SS (oK l):=(DI l [] (by simp[SS])).1
theorem gH {l:List b9} {y:b9}:y∈oK l↔y∈l:=by have:=(DI l [] (by simp[SS])).2.1 y;simpa[oK] using this
def qo (l:List b9):(oK l).length<=l.length:=by have:=(DI l [] (by simp[SS])).2.2;simpa[oK] using this
theorem SS.ext:∀{l m:List b9},SS l->SS m->(∀y,y∈l↔y∈m)->l=m:=by intro l;induction l with
 |nil=>intro m _ _ h;cases m with
  |nil=>rfl
  |cons y m=>exact absurd ((h y).2 ai) ai
 |cons x l R=>intro m N O h;cases m with
  |nil=>exact absurd ((h x).1 ai) ai
  |cons y m=>
   have D:=dG.1 N;have F:=dG.1 O;have G:x=y:=by
    rcases aJ.1 ((h x).1 ai) with e|P
    .exact e
    .rcases aJ.1 ((h y).2 ai) with e|Q
     .exact e.symm
     .have L:=F.1 x P;have K:=D.1 y Q;rw[Bj L] at K;cases K
   subst G;congr 1;refine R D.2 F.2 λz=> ?_
   have I:=h z;simp only[aJ] at I;constructor
   .intro q;rcases I.1 (.inr q) with e|B
    .subst e;exact absurd rfl (JL (D.1 z q))
    .exact B
   .intro B;rcases I.2 (.inr B) with e|q
    .subst e;exact absurd rfl (JL (F.1 z B))
    .exact q
def jE {I:Type}:∀{l m:List I},l.Nodup->(∀x∈l,x∈m)->l.length<=m.length:=by intro l;induction l with
 |nil=>intro m _ _;simp
 |cons x l G=>
  intro m F B;have q:=gC.1 F;obtain⟨a,b,rfl⟩:=Ee (B x ai)
  have:=G (m:=a++b) q.2 (λy D=>by
   have z:=B y (by simp[D]);simp only[bu,aJ] at z⊢;rcases z with h|h|h
   .exact .inl h
   .subst h;exact absurd D q.1
   .exact .inr h)
  simp only[bp,cF] at this⊢;omega
def V6 {K:Type} {l m:List K} (D:l.Nodup) (G:∀x∈l,x∈m) (z:m.length<=l.length):∀x∈m,x∈l:=by
 intro x I;apply eB;intro F;have B:(x::l).Nodup:=gC.2 ⟨F,D⟩
 have:=jE (m:=m) B (λy q=>by
  rcases aJ.1 q with rfl|q
  .exact I
  .exact G y q)
 simp at this;omega
def mF (o:List b9) (l:List b9):List b9:=l.foldl (λo y=>if y∈o then o else o++[y]) o
def Rq:∀(l o:List b9),(∀y,y∈mF o l↔y∈o\/y∈l)/\(o.Nodup->(mF o l).Nodup)/\∃e,mF o l=o++e:=by intro l;induction l with
 |nil=>intro o;exact⟨λy=>by simp[mF],λh=>h,[],by simp[mF]⟩
 |cons x l G=>
  intro o;by_cases q:x∈o
  .obtain⟨z,B,D⟩:=G o;have e:mF o (x::l)=mF o l:=by simp[mF,q]
   rw[e];refine⟨λy=> ?_,B,D⟩;rw[z,aJ];exact⟨λh=>h.elim .inl λh=> .inr (.inr h),λh=>h.elim .inl λh=>h.elim (λh=> .inl (h▸q)) .inr⟩
  .obtain⟨z,B,I,D⟩:=G (o++[x]);have e:mF o (x::l)=mF (o++[x]) l:=by simp[mF,q]
   rw[e];refine⟨λy=> ?_,λh=>B ?_,x::I,by rw[D];simp⟩
   .rw[z,aJ,bu,cv];exact⟨λh=>h.elim (λh=>h.elim .inl λh=> .inr (.inl h)) λh=> .inr (.inr h),λh=>h.elim (λh=> .inl (.inl h)) λh=>h.elim (λh=> .inl (.inr h)) .inr⟩
   .rw[iI];exact⟨h,by simp,λa K b F=>by simp only[cv] at F;subst F;exact λe=>q (e▸K)⟩
inductive sI (next:b9->List b9) (x:b9):b9->Prop
 |refl:sI next x x
 |step {y z:b9}:sI next x y->z∈next y->sI next x z
theorem sI.trans {next:b9->List b9} {x y z:b9} (q:sI next x y) (B:sI next y z):sI next x z:=by induction B with
 |refl=>exact q
 |step _ D F=>exact .step F D
def search {R:Type} {next:b9->List b9} {U:List b9} {K:b9} (h0:K∈U) (hU:∀x∈U,∀y∈next x,y∈U)
  {outer:Nat->List b9->Option R} {fin:List b9->Option R}
  (G:∀i o,o.length<=U.length->o.length<=i->∀r,fin o=some r->outer i o=some r)
  (O:∀i o x,o.length<=U.length->(mF o (next x)).length<=U.length->o[i]? =some x->x∈U->∀r,outer (i+1) (mF o (next x))=some r->outer i o=some r):
  ∃o:List b9,o.Nodup/\(∀y,y∈o↔sI next K y)/\o.length<=U.length/\∀r,fin o=some r->outer 0 [K]=some r:=by
 have key:∀(n i:Nat) (o:List b9),U.length-i=n->o.Nodup->K∈o->(∀y∈o,y∈U/\sI next K y)->(∀j y,j<i->o[j]? =some y->∀z∈next y,z∈o)->
   ∃S:List b9,S.Nodup/\(∀y,y∈S↔sI next K y)/\S.length<=U.length/\∀r,fin S=some r->outer i o=some r:=by
  intro n;induction n with
  |zero=>
   intro i o hn L hx N hc;have q:=jE L λy B=>(N y B).1
   refine⟨o,L,λy=>⟨λB=>(N y B).2,λF=> ?_⟩,q,λr F=>G i o q af r F⟩;induction F with
   |refl=>exact hx
   |step _ Q ih=>obtain⟨j,hj,e⟩:=iV.1 ih;exact hc j _ af (by rw[aK hj,e]) _ Q
  |succ n ih=>
   intro i o hn L hx N hc;have q:=jE L λy B=>(N y B).1
   by_cases hi:i<o.length
   .have I:o[i]? =some o[i]:=aK hi;have P:=N o[i] (cG hi);obtain⟨a1,a2,e,a3⟩:=Rq (next o[i]) o;have V:∀y∈mF o (next o[i]),y∈U/\sI next K y:=λy B=>by
     rcases(a1 y).1 B with h|h
     .exact N y h
     .exact⟨hU _ P.1 y h, .step P.2 h⟩
    obtain⟨S,r1,r2,r3,r4⟩:=ih (i+1) (mF o (next o[i])) af (a2 L) ((a1 _).2 (.inl hx)) V (λj y hj B z Q=>by
     by_cases hji:j<o.length
     .have D:o[j]? =some y:=by
       rw[a3,fL hji] at B;exact B
      by_cases e2:j=i
      .subst e2;rw[I] at D;injection D with D;subst D;exact(a1 z).2 (.inr Q)
      .exact(a1 z).2 (.inl (hc j y af D z Q))
     .omega)
    exact⟨S,r1,r2,r3,λr F=>O i o _ q (jE (a2 L) λy B=>(V y B).1) I P.1 r (r4 r F)⟩
   .refine⟨o,L,λy=>⟨λB=>(N y B).2,λF=> ?_⟩,q,λr F=>G i o q af r F⟩;induction F with
    |refl=>exact hx
    |step _ Q ih=>obtain⟨j,hj,e⟩:=iV.1 ih;exact hc j _ af (by rw[aK hj,e]) _ Q
 exact key _ 0 [K] rfl ai ai (λy B=>by simp only[cv] at B;subst B;exact⟨h0, .refl⟩) (λj y hj=>by omega)
