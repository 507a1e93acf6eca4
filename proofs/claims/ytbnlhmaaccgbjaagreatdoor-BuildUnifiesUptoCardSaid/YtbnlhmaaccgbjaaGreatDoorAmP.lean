/- THE ABSTRACT MACHINE. -/
import Derived.Test.YtbnlhmaaccgbjaaGreatDoorAmT
set_option linter.all false
open Go.IntKind (wrap)
namespace Go.AM
class fC {T α:Type} (enc:T->α):Prop where
 inj:∀a b,enc a=enc b->a=b
def dS (k:IntKind) (a:Int):List AV:=[.int k a]
def oO (s:List UInt8):List AV:=[.str s]
def Xc (b:Bool):List AV:=[.bool b]
def kR {T:Type} (q:Nat) (enc:T->List AV) (l:List T):List AV:=[.dD q (l.map enc)]
def map_inj {T α:Type} {enc:T->α} (h:∀a b,enc a=enc b->a=b):∀(l m:List T),l.map enc=m.map enc->l=m:=by intro l;induction l with
 |nil=>intro m q;cases m with
  |nil=>rfl
  |cons x m=>simp at q
 |cons x l w=>intro m q;cases m with
  |nil=>simp at q
  |cons y m=>simp only[bw,cS] at q;rw[h _ _ q.1,w _ q.2]
instance {k:IntKind}:fC (dS k):=⟨λa b h=>by simpa[dS] using h⟩
instance:fC oO:=⟨λa b h=>by simpa[oO] using h⟩
instance:fC Xc:=⟨λa b h=>by simpa[Xc] using h⟩
instance {T α:Type} {enc:T->α} [fC enc]:fC (List.map enc):=⟨map_inj fC.inj⟩
instance {T:Type} {sz:Nat} {enc:T->List AV} [fC enc]:fC (kR sz enc):=⟨λa b h=>by
 simp only[kR,cS,AV.dD.injEq,eH,eE] at h
 exact map_inj fC.inj _ _ h⟩
section
variable {R:Type}
def mc {α T:Type} {enc:T->α} [fC enc] (d:T) (k:T->Option R):tK enc (enc d) k=k d:=asE_pos fC.inj d k
def RH (r:AV) (k:AV->Option R):yb (some (r,[])) k=k r:=Zb rfl k
def RM (l e q:Nat) (r:AV) (xs:List (List AV)) (k:AV->List (List AV)->Option R):Hr (some (r,[(l, .row e q xs)])) l e q k=k r xs:=Zd rfl k
def vi {α:Type} [Inhabited α] {l:List α} {i:Nat} (h:i<l.length) (k:α->Option R):bA l (i:Int) k=k (l.getD i default):=
 iX (by rw[aK h,bC,aK h];rfl) k
def ye {α:Type} [Inhabited α] {l:List α} {i:Int} (q:0<=i) (h:i<l.length) (k:α->Option R):bA l i k=k (l.getD i.toNat default):=by obtain⟨n,rfl⟩:=gm q;exact vi af k
def Xm {α:Type} [Inhabited α] {l:List α} {i:Nat} (h:i<l.length) (k:α->Option R):eG l i k=k (l.getD i default):=
 lB (by rw[aK h,bC,aK h];rfl) k
end
def aag (n:Int):wrap .i64 n=if 9223372036854775808<=n % 18446744073709551616 then n % 18446744073709551616-18446744073709551616 else n % 18446744073709551616:=by show(if(true&&decide (n % 18446744073709551616>=9223372036854775808))=true then n % 18446744073709551616-18446744073709551616 else n % 18446744073709551616)=_;simp only[gF,nM,ge_iff_le]
theorem oy {n:Int} (l: -9223372036854775808<=n) (q:n<=9223372036854775807):wrap .i64 n=n:=by rw[aag];split<;>omega
def WO (n:Int):wrap .u64 n=n % 18446744073709551616:=by show(if(false&&decide (n % 18446744073709551616>=9223372036854775808))=true then n % 18446744073709551616-18446744073709551616 else n % 18446744073709551616)=_;simp
theorem Av {n:Int} (l:0<=n) (q:n<=18446744073709551615):wrap .u64 n=n:=by rw[WO];omega
def bP {i:Nat} (h:i<4611686018427387904):wrap .i64 ((i:Int)+1)=((i+1:Nat):Int):=by rw[oy af af];omega
def cond_pos {α:Type} {b:Bool} (h:b=true) (x y:α):cond b x y=x:=by subst h;rfl
def cond_neg {α:Type} {b:Bool} (h:b=false) (x y:α):cond b x y=y:=by subst h;rfl
end Go.AM
namespace Go.AM
def Cm (a:List UInt8):Op.bytesLess a a=false:=by induction a with
 |nil=>rfl
 |cons x a l=>simp[Op.bytesLess,l]
theorem Bk:∀(a b:List UInt8),Op.bytesLess a b=false->a≠b->Op.bytesLess b a=true:=by intro a;induction a with
 |nil=>intro b h l;cases b with
  |nil=>exact absurd rfl l
  |cons y b=>simp[Op.bytesLess] at h
 |cons x a z=>intro b h l;cases b with
  |nil=>rfl
  |cons y b=>
   simp only[Op.bytesLess,jX,aT,Bool.and_eq_false_iff] at h;simp only[Op.bytesLess,gK,nM,aS,jf];by_cases e:x=y
   .subst e;refine .inr ⟨rfl,z b (h.2.resolve_left ai) λe=>l (by rw[e])⟩
   .refine .inl ?_;have w:=h.1;simp only[Ef] at w⊢
    have:x.toNat≠y.toNat:=λq=>e (UInt8.toNat.inj q)
    omega
theorem vI:∀(a b c:List UInt8),Op.bytesLess a b=true->Op.bytesLess b c=true->Op.bytesLess a c=true:=by intro a;induction a with
 |nil=>intro b c q l;cases c with
  |nil=>simp[Op.bytesLess] at l
  |cons z c=>rfl
 |cons x a w=>intro b c q l;cases b with
  |nil=>simp[Op.bytesLess] at q
  |cons y b=>cases c with
   |nil=>simp[Op.bytesLess] at l
   |cons z c=>
    simp only[Op.bytesLess,gK,nM,aS,jf,Ef] at q l⊢;rcases q with q|⟨rfl,q⟩
    .rcases l with l|⟨rfl,l⟩
     .exact .inl af
     .exact .inl q
    .rcases l with l|⟨rfl,l⟩
     .exact .inl l
     .exact .inr ⟨rfl,w b c q l⟩
theorem Bj {a b:List UInt8} (h:Op.bytesLess a b=true):Op.bytesLess b a=false:=by cases e:Op.bytesLess b a with
 |false=>rfl
 |true=>have:=vI _ _ _ h e;rw[Cm] at this;cases this
section
variable {α:Type} (lt:α->α->Bool)
def sJ (x:α):List α->List α
 |[]=>[x]
 |y::l=>if lt x y=true then x::y::l else y::sJ x l
def mU (l:List α):Prop:=l.Pairwise λa b=>lt b a=false
theorem Ks {x:α} {p q:List α} (l:∀y∈p,lt x y=false) (w:∀y∈q,lt x y=true):sJ lt x (p++q)=p++x::q:=by induction p with
 |nil=>cases q with
  |nil=>rfl
  |cons y q=>simp only[dK,sJ];rw[aB (w y (gE ..))]
 |cons y p D=>simp only[gi,sJ];rw[au (by simp[l y (gE ..)]),D λz B=>l z (dz _ B)]
theorem SD {x y:α}:∀{l:List α},y∈sJ lt x l↔y=x\/y∈l:=by intro l;induction l with
 |nil=>simp[sJ]
 |cons z l q=>
  simp only[sJ];split
  .simp
  .simp only[aJ,q];constructor
   .rintro (h|h|h)<;>simp[h]
   .rintro (h|h|h)<;>simp[h]
theorem SC {x:α}:∀{l:List α},(sJ lt x l).length=l.length+1:=by intro l;induction l with
 |nil=>rfl
 |cons y l q=>simp only[sJ];split<;>simp[q]
theorem BA (q:∀a b,lt a b=true->lt b a=false) (up:∀x y z,lt x y=true->lt z y=false->lt x z=true) {x:α}:∀{l:List α},mU lt l->mU lt (sJ lt x l):=by intro l;induction l with
 |nil=>intro _;simp[sJ,mU]
 |cons y l D=>
  intro B;simp only[mU,dG] at B;simp only[sJ];split
  .rename_i h;simp only[mU,dG,aJ];refine⟨λz w=> ?_,B⟩;rcases w with rfl|w
   .exact q _ _ h
   .exact q _ _ (up _ _ _ h (B.1 z w))
  .rename_i h;simp only[mU,dG];refine⟨λz w=> ?_,D B.2⟩;rcases(SD lt).1 w with rfl|w
   .simpa using h
   .exact B.1 z w
def tO (l:List α):List α:=l.foldl (λout x=>sJ lt x out) []
end
end Go.AM
namespace Go.AM
abbrev Out:Type:=AV×List (Nat×Ob)
noncomputable def dec {T:Type} (E:T->Out) (c:Option Out):Option T:=
 match c with
 |some r=>open Classical in if h:∃x,E x=r then some h.choose else none
 |none=>none
def lT {T:Type} (E:T->Out) (c:Option Out) (t:Option T):Prop:=∀x,t=some x->c=some (E x)
def iw {T:Type} (E:T->Out) (c:Option Out):lT E c (dec E c):=by intro x l;cases c with
 |none=>simp[dec] at l
 |some r=>
  simp only[dec] at l;split at l
  .grind
  simp_all
def yc {T:Type} {E:T->Out} [fC E] {c:Option Out} {x:T} (h:c=some (E x)):dec E c=some x:=by
 subst h;have l:∃y,E y=E x:=⟨x,rfl⟩
 simp[dec,kL l];rw[fC.inj _ _ l.choose_spec]
section
variable {T:Type} {E:T->Out}
def A2 {c:Out} {x:T} (h:c=E x):lT E (some c) (some x):=by intro y l;simp_all
def rF {c c':Bool} {a b:Option Out} {l q:Option T} (B:c=c') (w:lT E a l) (z:lT E b q):lT E (bif c then a else b) (bif c' then l else q):=by grind
def RP {R:Type} {p:Prop} [Decidable p] {a:Option R} {x:R} (h:check p a=some x):p/\a=some x:=by simp_all[check]
def mH {R:Type} {p:Prop} [Decidable p] {a:Option R} (h:p):check p a=a:=by unfold check;simp_all
def iH {p l:Prop} [Decidable p] [Decidable l] {a:Option Out} {q:Option T} (w:l->p) (h:lT E a q):lT E (check p a) (check l q):=by intro x z;have:=RP z;rw[mH (w this.1)];exact h _ this.2
def aaE {α w:Type} {enc:α->w} [fC enc] {L:List w} {l:List α} {i:Int} {k:α->Option Out} {k':α->Option T} (B:L=l.map enc) (h:∀x,lT E (k x) (k' x)):
  lT E (bA L i λc=>tK enc c k) (bA l i k'):=by
 subst B;intro x q;unfold bA at q⊢;split at q
 .rename_i z;rw[dN];cases e:l[i.toNat]? with
  |none=>simp_all
  |some y=>rw[e] at q;simp[dX,aB z];rw[mc];exact h _ _ q
 simp_all
def aaF {α w:Type} {enc:α->w} [fC enc] {L:List w} {l:List α} {i:Nat} {k:α->Option Out} {k':α->Option T} (z:L=l.map enc) (h:∀x,lT E (k x) (k' x)):
  lT E (eG L i λc=>tK enc c k) (eG l i k'):=by
 subst z;intro x q;unfold eG at q⊢;rw[dN];cases e:l[i]? with
 |none=>simp_all
 |some y=>rw[e] at q;simp;rw[mc];exact h _ _ q
def aeO {α w:Type} {enc:α->w} [fC enc] {L:List w} {l:List α} {i q:Int} {k:α->Option Out} {k':α->Option T} (B:L=l.map enc) (z:i=q) (h:∀x,lT E (k x) (k' x)):
  lT E (bA L i λc=>tK enc c k) (bA l q k'):=by
 subst z;exact aaE B h
def aeP {α w:Type} {enc:α->w} [fC enc] {L:List w} {l:List α} {i q:Nat} {k:α->Option Out} {k':α->Option T} (B:L=l.map enc) (z:i=q) (h:∀x,lT E (k x) (k' x)):
  lT E (eG L i λc=>tK enc c k) (eG l q k'):=by
 subst z;exact aaF B h
def I_getb {α:Type} {l:List α} {i:Int} {k:α->Option Out} {k':α->Option T} (h:∀x,lT E (k x) (k' x)):lT E (bA l i k) (bA l i k'):=by
 intro x q;unfold bA at q⊢;split at q
 .rename_i w;rw[aB w];cases e:l[i.toNat]? with
  |none=>simp_all
  |some y=>rw[e] at q;exact h _ _ q
 simp_all
def bind_some {α l:Type} {f:Option α} {k:α->Option l} {x:l} (h:Option.bind f k=some x):∃y,f=some y/\k y=some x:=by cases f with
 |none=>simp at h
 |some y=>simp_all
def N5 {U:Type} {enc:U->AV} [fC enc] {l:U->Out} {c:Option Out} {f:Option U} {k:U->Option Out} {k':U->Option T} (B:lT l c f) (h:∀y,lT E (k y) (k' y)) (z:∀y,l y=(enc y,[]):=by intro _;rfl):
  lT E (yb c λr=>tK enc r k) (Option.bind f k'):=by
 intro x D;obtain⟨y,q,w⟩:=bind_some D;rw[B _ q,z,RH,mc];exact h _ _ w
def CW {U V R:Type} (f:Option (U×V)) (k:U->V->Option R):Option R:=f.bind λp=>k p.1 p.2
def e9 {U V W R:Type} (f:Option (U×V×W)) (k:U->V->W->Option R):Option R:=f.bind λp=>k p.1 p.2.1 p.2.2
def mN {l q w z R:Type} (f:Option (l×q×w×z)) (k:l->q->w->z->Option R):Option R:=f.bind λp=>k p.1 p.2.1 p.2.2.1 p.2.2.2
def JJ {l q w z B R:Type} (f:Option (l×q×w×z×B)) (k:l->q->w->z->B->Option R):Option R:=f.bind λp=>k p.1 p.2.1 p.2.2.1 p.2.2.2.1 p.2.2.2.2
def Ry {l q w z B D R:Type} (f:Option (l×q×w×z×B×D)) (k:l->q->w->z->B->D->Option R):Option R:=f.bind λp=>k p.1 p.2.1 p.2.2.1 p.2.2.2.1 p.2.2.2.2.1 p.2.2.2.2.2
def mG {U V R:Type} (a:U) (b:V) (k:U->V->Option R):CW (some (a,b)) k=k a b:=rfl
def bI {U V W R:Type} (a:U) (b:V) (c:W) (k:U->V->W->Option R):e9 (some (a,b,c)) k=k a b c:=rfl
def aeN {U V:Type} {enc:U->AV} [fC enc] {l:V->List AV} [fC l] {w e z:Nat} {q:U×List V->Out} {c:Option Out} {f:Option (U×List V)} {k:U->List V->Option Out} {k':U->List V->Option T}
  (G:lT q c f) (h:∀y xs,lT E (k y xs) (k' y xs)) (F:∀y,q y=(enc y.1,[(w, .row e z (y.2.map l))]):=by intro _;rfl):
  lT E (Hr c w e z λr c2=>tK enc r λy=>tK (List.map l) c2 λxs=>k y xs) (CW f k'):=by
 intro x H;obtain⟨y,B,D⟩:=bind_some H;rw[G _ B,F,RM,mc,mc];exact h _ _ _ D
end
section
variable {α R:Type}
def eF {l:List α} {i:Nat} {x:α} {xs:List α} (h:l.drop i=x::xs):i<l.length:=by have:=aP List.length h;grind
def mT {l:List α} {i:Nat} (h:l.drop i=[]):l.length<=i:=by simp_all
def bZ {l:List α} {i:Nat} {x:α} {xs:List α} (h:l.drop i=x::xs):l[i]? =some x:=by have:=aP (λm=>m[0]?) h;grind
def aI {l:List α} {i:Nat} {x:α} {xs:List α} (h:l.drop i=x::xs):l.drop (i+1)=xs:=by have:=aP (List.drop 1) h;grind[List.drop_drop]
def aV {l:List α} {i:Nat} {x:α} {xs:List α} (h:l.drop i=x::xs):decide ((i:Int)<(l.length:Int))=true:=by have:=eF h;simp_all
theorem bq {l:List α} {i:Nat} (h:l.drop i=[]):decide ((i:Int)<(l.length:Int))=false:=by simp_all
def aM {l:List α} {i:Nat} {x:α} {xs:List α} (h:l.drop i=x::xs) (k:α->Option R):bA l (i:Int) k=k x:=iX (bZ h) k
def me {l:List α} {i:Nat} {x:α} {xs:List α} (h:l.drop i=x::xs) (k:α->Option R):eG l (Int.toNat (i:Int)) k=k x:=by exact lB (bZ h) k
def mh {l:List α} {i:Nat} {x:α} {xs:List α} (h:l.drop i=x::xs) (a:Option R):check (0<=(i:Int)/\Int.toNat (i:Int)<l.length) a=a:=
 bU ⟨af,by exact eF h⟩ a
def aR {l:List α} {i:Nat} {x:α} {xs:List α} (h:l.drop i=x::xs) (q:l.length<=1073741824):wrap .i64 ((i:Int)+1)=((i+1:Nat):Int):=
 bP (by have:=eF h;omega)
def cC {n m c:Nat} (a:Option R) (h:n<=1073741824) (w:m<=1073741824) (l:c<=1024):check ((n+m) *c<=140737488355328/\n+m<=4611686018427387904) a=a:=by refine bU ⟨?_,af⟩ a;have q:(n+m) *c<=(n+m) *1024:=Bb _ l;omega
def EF {l:List α} {i:Nat} (h:i<=l.length) (a:Option R):check (0<=(i:Int)/\(i:Int)<=((l.length:Nat):Int)) a=a:=bU ⟨af,af⟩ a
def oz {n:Nat} (h:n<=1073741824):wrap .i64 (((n+1:Nat):Int)-1)=(n:Int):=by grind[oy]
def jo (p:α->Bool):List α->Nat->Int
 |[],_=> -1
 |x::xs,i=>if p x then(i:Int) else jo p xs (i+1)
theorem aj {α l:Type} (a:α) (k:α->Option l):Option.bind (some a) k=k a:=rfl
def cO {l:List α} {i:Nat} (h:i<l.length) (k:α->Option R):bA l (i:Int) k=k l[i]:=iX (aK h) k
def tf {l:List α} {i:Nat} (h:i<l.length) (k:α->Option R):eG l i k=k l[i]:=lB (aK h) k
def Bu {l:List α} {i:Nat} (h:i<l.length) (a:Option R):check (0<=(i:Int)/\Int.toNat (i:Int)<l.length) a=a:=
 bU ⟨af,af⟩ a
end
def EN {U:Type} (enc:U->AV):U->Out:=λx=>(enc x,[])
instance {U:Type} {enc:U->AV} [fC enc]:fC (EN enc):=⟨λa b h=>fC.inj _ _ (aP Prod.fst h)⟩
section
variable {T:Type} {E:T->Out}
def Is {x:T}:lT E (some (E x)) (some x):=A2 rfl
def Iz {c:Option Out}:lT E c (dec E c):=iw _ _
def Ic {c:Bool} {a b:Option Out} {l q:Option T} (w:lT E a l) (z:lT E b q):lT E (bif c then a else b) (bif c then l else q):=rF rfl w z
def Ig {α q:Type} (enc:α->q) [fC enc] {l:List α} {i:Int} {k:α->Option Out} {k':α->Option T} (h:∀x,lT E (k x) (k' x)):lT E (bA (l.map enc) i λc=>tK enc c k) (bA l i k'):=aaE rfl h
def In {α q:Type} (enc:α->q) [fC enc] {l:List α} {i:Nat} {k:α->Option Out} {k':α->Option T} (h:∀x,lT E (k x) (k' x)):lT E (eG (l.map enc) i λc=>tK enc c k) (eG l i k'):=aaF rfl h
def Ik {U:Type} {enc:U->AV} [fC enc] {c:Option Out} {k:U->Option Out} {k':U->Option T} (h:∀y,lT E (k y) (k' y)):lT E (yb c λr=>tK enc r k) (Option.bind (dec (EN enc) c) k'):=N5 (iw _ _) h
end
def oH {T:Type} {E:T->Out} [fC E] {raw body c:Option Out} {t:Option T} {r:T} (w:t=some r) (l:lT E raw t) (q:body=raw) (h:∀{r:Out},body=some r->c=some r):dec E c=some r:=
 yc (h (q.trans (l _ w)))
class Ip (K:vF):Prop where
 is:∀a b:K.T,∃(inst:Decidable (a=b)),w5 (K.enc a) (K.enc b)=some (decide (a=b))
section
variable {R:Type}
noncomputable def Fj {K V:Type} (l:List (K×V)) (key:K):Option Nat:=open Classical in l.findIdx? λp=>decide (key=p.1)
noncomputable def yC {K V:Type} (l:List (K×V)) (key:K) (v:V):List (K×V):=match Fj l key with
 |some i=>l.set i (key,v)
 |none=>l++[(key,v)]
noncomputable def getM {K V:Type} (l:List (K×V)) (key:K):Option V:=(Fj l key).bind λi=>(l[i]?).map (·.2)
noncomputable def w6 {K V:Type} (l:List (K×V)) (key:K) (k:V->Option R) (z:Option R):Option R:=match getM l key with
 |some v=>k v
 |none=>z
def AR {α:Type} (x:α) (k:α->Option R):Option R:=k x
end
theorem Np {K:vF} [Ip K] {V:Type} (key:K.T):∀l:List (K.T×V),qD (K.enc key) (l.map λp=>K.enc p.1)=some (Fj l key):=by intro l;induction l with
 |nil=>rfl
 |cons p l q=>
  obtain⟨inst,h⟩:=Ip.is (K:=K) _ _;rw[bw,qD,h];unfold Fj;rw[uM];by_cases e:key=p.1
  .simp[e]
  .simp[q,e];rfl
theorem Ye {K V:Type} {l:List (K×V)} {key:K} {i:Nat} (h:Fj l key=some i):∃q:i<l.length,(l[i]'q).1=key:=by unfold Fj at h;rw[y6] at h;grind
def vN {K V:vF} [fC K.enc] [fC V.enc]:∀{a b:List (K.T×V.T)},(fA K V a).1=(fA K V b).1->(fA K V a).2=(fA K V b).2->a=b:=by intro a;induction a with
 |nil=>simp_all[fA]
 |cons x a w=>intro b h l;cases b with
  |nil=>simp[fA] at h
  |cons y b=>simp[fA,bw,cS] at h l;obtain⟨z,B⟩:=x;obtain⟨D,F⟩:=y;have e1:z=D:=fC.inj _ _ h.1;have q:B=F:=fC.inj _ _ l.1;rw[e1,q,w h.2 l.2]
instance {K V:vF} [fC K.enc] [fC V.enc]:fC (fA K V):=⟨λa b h=>vN (aP Prod.fst h) (aP Prod.snd h)⟩
instance {K:vF} {E:F7} [fC K.enc] [fC E.enc]:fC (J5 K E):=⟨λa b=>by
 induction a generalizing b with
 |nil=>intro h;cases b with
  |nil=>rfl
  |cons y b=>simp[J5] at h
 |cons x a G=>intro h;cases b with
  |nil=>simp[J5] at h
  |cons y b=>
   simp only[J5,bw,ck,cS] at h;obtain⟨⟨B,D⟩,l,F⟩:=h;obtain⟨H,q⟩:=x;obtain⟨I,w⟩:=y;have z:q=w:=by
    cases q<;>cases w<;>simp only[dX,A9,aW,reduceCtorEq] at l
    .rfl
    .rw[map_inj fC.inj _ _ l]
   have e1:H=I:=fC.inj _ _ B
   rw[e1,z,G b (by simp only[J5];rw[D,F])]⟩
def adv {K V:vF} [Ip K] (key:K.T) (l:List (K.T×V.T)):VX (K.enc key) (fA K V l).1 (fA K V l).2=some ((getM l key).map V.enc):=by unfold VX fA getM;grind[Np,Ye]
theorem TV {K V:vF} {l:List (K.T×V.T)} {key:K.T} {v:V.T} {i:Nat} (h:Fj l key=some i):fA K V (l.set i (key,v))=((fA K V l).1,(fA K V l).2.set i (V.enc v)):=by
 obtain⟨q,e⟩:=Ye h;unfold fA;rw[ck];constructor
 .apply nN
  .simp
  grind
 simp
def adz {K V:vF} [Ip K] (key:K.T) (v:V.T) (l:List (K.T×V.T)):DQ (K.enc key) (V.enc v) (fA K V l).1 (fA K V l).2=some (fA K V (yC l key v)):=by grind[fA,Np,DQ,yC,TV]
section
variable {T:Type} {E:T->Out}
def I_look {K V:vF} [Ip K] [fC V.enc] {l:List (K.T×V.T)} {key:K.T} {k:V.T->Option Out} {k':V.T->Option T} {z:Option Out} {w:Option T} (h:∀y,lT E (k y) (k' y)) (B:lT E z w):
  lT E (Nk (VX (K.enc key) (fA K V l).1 (fA K V l).2) (λv=>tK V.enc v k) z) (w6 l key k' w):=by
 intro x q;unfold w6 at q;unfold Nk;rw[adv];cases e:getM l _ with
 |none=>rw[e] at q;exact B _ q
 |some v=>rw[e] at q;simp;rw[mc];exact h _ _ q
def I_put {K V:vF} [Ip K] [fC K.enc] [fC V.enc] {l:List (K.T×V.T)} {key:K.T} {a:AV} {v:V.T} {k:List (K.T×V.T)->Option Out} {k':List (K.T×V.T)->Option T} (q:a=V.enc v) (h:∀m,lT E (k m) (k' m)):
  lT E (Wm (DQ (K.enc key) a (fA K V l).1 (fA K V l).2) λp=>tK (fA K V) p k) (AR (yC l key v) k'):=by
 subst q;intro x w;unfold Wm;rw[adz];simp[mc];exact h _ _ w
def kF {A:Type} (enc:A->List AV) (k:Nat):A->List AV:=λx=>(enc x).set k .hole
abbrev qg {V:Type} (enc:V->List AV):List (Option (List V))->List (Option (List (List AV))):=List.map (Option.map (List.map enc))
instance {V:Type} (enc:V->List AV) [fC enc]:fC (qg enc):=⟨λa b h=>by
 refine map_inj (λx y e=> ?_) _ _ h;cases x<;>cases y<;>simp at e⊢
 exact map_inj fC.inj _ _ e⟩
instance {V:Type} (enc:V->List AV) [fC enc]:fC (List.map (Option.map (List.map enc))):=inferInstanceAs (fC (qg enc))
def Wg {R V:Type} (l:List (Option (List V))) (i:Nat) (k:List V->List (Option (List V))->Option R):Option R:=match l[i]? with
 |some (some q)=>k q (l.set i none)
 |_=>none
def uB {l A V:Type} (qG:l->List V->A):List l->List (Option (List V))->Option (List A)
 |[],[]=>some []
 |x::xs,some y::q=>(uB qG xs q).map (qG x y:: ·)
 |_,_=>none
def x7 {R q A V:Type} (qG:q->List V->A) (xs:List q) (w:List (Option (List V))) (k:List A->Option R):Option R:=match uB qG xs w with
 |some l=>k l
 |none=>none
def I_out {V:Type} {enc:V->List AV} [fC enc] {Y:List (Option (List V))} {i:Nat} {k:List V->List (Option (List V))->Option Out} {k':List V->List (Option (List V))->Option T} (h:∀l y,lT E (k l y) (k' l y)):
  lT E (ZZ (qg enc Y) i λc=>tK (List.map enc) c λl=>tK (qg enc) ((qg enc Y).set i none) λy=>k l y) (Wg Y i k'):=by
 intro x q;unfold Wg at q;split at q
 .rename_i l z;have e1:(qg enc Y)[i]? =some (some (l.map enc)):=by simp[z]
  have w:(qg enc Y).set i none=qg enc (Y.set i none):=by rw[qg,uN];rfl
  unfold ZZ;rw[e1];simp only;rw[mc,w,mc];exact h _ _ _ q
 simp_all
def aaG {V:Type} {enc:V->List AV} [fC enc] {Y:List (Option (List V))} {i:Nat} {L:List (List AV)} {l:List V} {k:List (Option (List V))->Option Out} {k':List (Option (List V))->Option T} (w:L=l.map enc) (h:∀y,lT E (k y) (k' y)):
  lT E (check (i<(qg enc Y).length) (tK (qg enc) ((qg enc Y).set i (some L)) k)) (check (i<Y.length) (AR (Y.set i (some l)) k')):=by
 subst w;refine iH ai ?_;have q:(qg enc Y).set i (some (l.map enc))=qg enc (Y.set i (some l)):=by rw[qg,uN];rfl
 rw[q,mc];exact h _
def MP {B A V:Type} {w:B->List AV} {enc:A->List AV} {q:V->List AV} {qG:B->List V->A} {k s:Nat} (G:∀x z,(w x).set k (.dD s (z.map q))=enc (qG x z)):∀{xs:List B} {F:List (Option (List V))} {l:List A},uB qG xs F=some l->
  ∃c,oG (qg q F)=some c/\wG k s (xs.map w) c=l.map enc
 |[],[],l,h=>by simp[uB,aW] at h;subst h;exact⟨[],rfl,rfl⟩
 |x::xs,some y::F,l,h=>by simp[uB,cB] at h;obtain⟨K,D,rfl⟩:=h;obtain⟨c,H,I⟩:=MP G D;simp_all[oG,wG]
 |[],_::_,l,h=>by simp[uB] at h
 |_::_,[],l,h=>by simp[uB] at h
 |_::_,none::_,l,h=>by simp[uB] at h
def Du {l A V:Type} {DG:l->List AV} {enc:A->List AV} [fC enc] {zL:V->List AV} {qG:l->List V->A} {q s:Nat} {xs:List l} {B:List (Option (List V))} {k:List A->Option Out} {k':List A->Option T} (h:∀m,lT E (k m) (k' m))
  (H:∀x z,(DG x).set q (.dD s (z.map zL))=enc (qG x z):=by intro _ _;rfl):
  lT E (Rs (oG (qg zL B)) λc=>tK (List.map enc) (wG q s (xs.map DG) c) k) (x7 qG xs B k'):=by
 intro x w;unfold x7 at w;split at w
 .rename_i m G;obtain⟨c,D,F⟩:=MP H G;unfold Rs;rw[D];simp only;rw[F,mc];exact h _ _ w
 simp_all
def JA {A V:Type} {q:A->List AV} {qG:A->List V->A} {sub:A->List V} (D:∀x z,q (qG x z)=q x) (F:∀x z,sub (qG x z)=z):∀{xs:List A} {B:List (Option (List V))} {l:List A},uB qG xs B=some l->
  xs.map q=l.map q/\B=l.map λx=>some (sub x)
 |[],[],l,h=>by simp[uB] at h;simp_all
 |x::xs,some y::B,l,h=>by simp[uB,cB] at h;obtain⟨I,w,rfl⟩:=h;obtain⟨G,H⟩:=JA D F w;simp_all
 |[],_::_,l,h=>by simp[uB] at h
 |_::_,[],l,h=>by simp[uB] at h
 |_::_,none::_,l,h=>by simp[uB] at h
def I_endN {A V:Type} {DG:A->List AV} {zL:V->List AV} {qG:A->List V->A} (sub:A->List V) {xs:List A} {w:List (Option (List V))} {F:List (List AV)->List (Option (List (List AV)))->Out} {k':List A->Option T}
  (h:∀l:List A,lT E (some (F (l.map DG) (qg zL (l.map λx=>some (sub x))))) (k' l)) (G:∀x z,DG (qG x z)=DG x:=by intro _ _;rfl) (I:∀x z,sub (qG x z)=z:=by intro _ _;rfl):
  lT E (some (F (xs.map DG) (qg zL w))) (x7 qG xs w k'):=by
 intro x q;unfold x7 at q;split at q
 .rename_i m H;obtain⟨B,D⟩:=JA G I H;rw[B,D];exact h _ _ q
 simp_all
def Wv {A V:Type} {l:A->List AV} {zL:V->List AV} [fC zL] {sub:A->List V} (q:∀a b,l a=l b->sub a=sub b->a=b):∀{x y:List A},x.map l=y.map l->qg zL (x.map λa=>some (sub a))=qg zL (y.map λa=>some (sub a))->x=y
 |[],[],_,_=>rfl
 |[],_::_,h,_=>by simp at h
 |_::_,[],h,_=>by simp at h
 |a::x,b::y,h,k=>by simp at h;have k:=fC.inj _ _ k;simp at k;rw[q a b h.1 k.1,Wv (zL:=zL) q h.2 (by rw[k.2])]
def IgX {A:Type} {ga enc:A->List AV} (l:ga=enc) [fC enc] {xs:List A} {i:Int} {k:A->Option Out} {k':A->Option T} (h:∀x,lT E (k x) (k' x)):lT E (bA (List.map ga xs) i λc=>tK enc c k) (bA xs i k'):=by subst l;exact Ig _ h
def InX {A:Type} {ga enc:A->List AV} (l:ga=enc) [fC enc] {xs:List A} {i:Nat} {k:A->Option Out} {k':A->Option T} (h:∀x,lT E (k x) (k' x)):lT E (eG (List.map ga xs) i λc=>tK enc c k) (eG xs i k'):=by subst l;exact In _ h
def aaD {V:Type} {enc:V->List AV} [fC enc] {Y Z:List (Option (List V))} {k:List (Option (List V))->Option Out} {k':List (Option (List V))->Option T} (h:∀y,lT E (k y) (k' y)):
  lT E (tK (qg enc) (qg enc Y++qg enc Z) k) (AR (Y++Z) k'):=by
 have e:qg enc Y++qg enc Z=qg enc (Y++Z):=ai;rw[e,mc];exact h _
def aeM {U:Type} {l:U->Out} {c:Option Out} {f:Option U} {q:AV->List (Nat×Ob)->Option Out} {k':U->Option T} (B:lT l c f) (h:∀y,lT E (q (l y).1 (l y).2) (k' y)):lT E (Bp c q) (Option.bind f k'):=by intro x D;obtain⟨y,w,z⟩:=bind_some D;rw[B _ w];unfold Bp;exact h _ _ z
def AZ {U:Type} {l:U->Out} [fC l] {c:Option Out} {f:Option U} {k:U->Option Out} {k':U->Option T} (z:lT l c f) (h:∀y,lT E (k y) (k' y)):lT E (Mq l c k) (Option.bind f k'):=by intro x B;obtain⟨y,q,w⟩:=bind_some B;rw[z _ q];unfold Mq;simp only;rw[mc];exact h _ _ w
noncomputable abbrev genK2 {U V R:Type} (l:U×V->Out) (c:Option Out) (k:U->V->Option R):Option R:=Mq l c λp=>k p.1 p.2
noncomputable abbrev genK3 {U V W R:Type} (l:U×V×W->Out) (c:Option Out) (k:U->V->W->Option R):Option R:=Mq l c λp=>k p.1 p.2.1 p.2.2
noncomputable abbrev genK4 {l q w z R:Type} (B:l×q×w×z->Out) (c:Option Out) (k:l->q->w->z->Option R):Option R:=Mq B c λp=>k p.1 p.2.1 p.2.2.1 p.2.2.2
def Jt {U V:Type} {l:U×V->Out} [fC l] {c:Option Out} {f:Option (U×V)} {k:U->V->Option Out} {k':U->V->Option T} (q:lT l c f) (h:∀y v,lT E (k y v) (k' y v)):lT E (genK2 l c k) (CW f k'):=
 AZ q λp=>h _ _
def Ju {U V W:Type} {l:U×V×W->Out} [fC l] {c:Option Out} {f:Option (U×V×W)} {k:U->V->W->Option Out} {k':U->V->W->Option T} (q:lT l c f) (h:∀y v w,lT E (k y v w) (k' y v w)):lT E (genK3 l c k) (e9 f k'):=
 AZ q λp=>h _ _ _
def Ur {l q z B:Type} {D:l×q×z×B->Out} [fC D] {c:Option Out} {f:Option (l×q×z×B)} {k:l->q->z->B->Option Out} {k':l->q->z->B->Option T} (F:lT D c f) (h:∀y v w x,lT E (k y v w x) (k' y v w x)):lT E (genK4 D c k) (mN f k'):=
 AZ F λp=>h _ _ _ _
noncomputable abbrev genK5 {l q w z B R:Type} (D:l×q×w×z×B->Out) (c:Option Out) (k:l->q->w->z->B->Option R):Option R:=Mq D c λp=>k p.1 p.2.1 p.2.2.1 p.2.2.2.1 p.2.2.2.2
def I_gen5 {l q w z B:Type} {D:l×q×w×z×B->Out} [fC D] {c:Option Out} {f:Option (l×q×w×z×B)} {k:l->q->w->z->B->Option Out} {k':l->q->w->z->B->Option T} (F:lT D c f) (h:∀a b c d e,lT E (k a b c d e) (k' a b c d e)):lT E (genK5 D c k) (JJ f k'):=
 AZ F λp=>h _ _ _ _ _
end
