/- THE ABSTRACT MACHINE. -/
import Derived.Test.YtacapiamkgkkjaaGreatDoorAmT
set_option linter.all false
open Go.IntKind (wrap)
namespace Go.AM
class fB {T α:Type} (enc:T->α):Prop where
 inj:∀a b,enc a=enc b->a=b
def eC (k:IntKind) (a:Int):List AV:=[.int k a]
def jL (s:List UInt8):List AV:=[.str s]
def XQ (b:Bool):List AV:=[.bool b]
def nC {T:Type} (q:Nat) (enc:T->List AV) (l:List T):List AV:=[.dK q (l.map enc)]
def map_inj {T α:Type} {enc:T->α} (h:∀a b,enc a=enc b->a=b):∀(l m:List T),l.map enc=m.map enc->l=m:=by intro l;induction l with
 |nil=>intro m q;cases m with
  |nil=>rfl
  |cons x m=>simp at q
 |cons x l w=>intro m q;cases m with
  |nil=>simp at q
  |cons y m=>simp only[bM,c9] at q;rw[h _ _ q.1,w _ q.2]
instance {k:IntKind}:fB (eC k):=⟨λa b h=>by simpa[eC] using h⟩
instance:fB jL:=⟨λa b h=>by simpa[jL] using h⟩
instance:fB XQ:=⟨λa b h=>by simpa[XQ] using h⟩
instance {T α:Type} {enc:T->α} [fB enc]:fB (List.map enc):=⟨map_inj fB.inj⟩
instance {T:Type} {sz:Nat} {enc:T->List AV} [fB enc]:fB (nC sz enc):=⟨λa b h=>by
 simp only[nC,c9,AV.dK.injEq,eN,eS] at h
 exact map_inj fB.inj _ _ h⟩
section
variable {R:Type}
def kO {α T:Type} {enc:T->α} [fB enc] (d:T) (k:T->Option R):sj enc (enc d) k=k d:=asE_pos fB.inj d k
def Su (r:AV) (k:AV->Option R):yE (some (r,[])) k=k r:=ZW rfl k
def SA (l e q:Nat) (r:AV) (xs:List (List AV)) (k:AV->List (List AV)->Option R):HR (some (r,[(l, .row e q xs)])) l e q k=k r xs:=ZY rfl k
def vG {α:Type} [Inhabited α] {l:List α} {i:Nat} (h:i<l.length) (k:α->Option R):bp l (i:Int) k=k (l.getD i default):=
 jd (by rw[aM h,bD,aM h];rfl) k
def yI {α:Type} [Inhabited α] {l:List α} {i:Int} (q:0<=i) (h:i<l.length) (k:α->Option R):bp l i k=k (l.getD i.toNat default):=by obtain⟨n,rfl⟩:=fW q;exact vG af k
def X0 {α:Type} [Inhabited α] {l:List α} {i:Nat} (h:i<l.length) (k:α->Option R):ef l i k=k (l.getD i default):=
 iE (by rw[aM h,bD,aM h];rfl) k
end
def aa4 (n:Int):wrap .i64 n=if 9223372036854775808<=n % 18446744073709551616 then n % 18446744073709551616-18446744073709551616 else n % 18446744073709551616:=by show(if(true&&decide (n % 18446744073709551616>=9223372036854775808))=true then n % 18446744073709551616-18446744073709551616 else n % 18446744073709551616)=_;simp only[gM,mH,ge_iff_le]
theorem oW {n:Int} (l: -9223372036854775808<=n) (q:n<=9223372036854775807):wrap .i64 n=n:=by rw[aa4];split<;>omega
def Xy (n:Int):wrap .u64 n=n % 18446744073709551616:=by show(if(false&&decide (n % 18446744073709551616>=9223372036854775808))=true then n % 18446744073709551616-18446744073709551616 else n % 18446744073709551616)=_;simp
theorem AP {n:Int} (l:0<=n) (q:n<=18446744073709551615):wrap .u64 n=n:=by rw[Xy];omega
def bJ {i:Nat} (h:i<4611686018427387904):wrap .i64 ((i:Int)+1)=((i+1:Nat):Int):=by rw[oW af af];omega
def cond_pos {α:Type} {b:Bool} (h:b=true) (x y:α):cond b x y=x:=by subst h;rfl
def cond_neg {α:Type} {b:Bool} (h:b=false) (x y:α):cond b x y=y:=by subst h;rfl
end Go.AM
namespace Go.AM
def yC (a:List UInt8):Op.bytesLess a a=false:=by induction a with
 |nil=>rfl
 |cons x a l=>simp[Op.bytesLess,l]
theorem uq:∀(a b:List UInt8),Op.bytesLess a b=false->a≠b->Op.bytesLess b a=true:=by intro a;induction a with
 |nil=>intro b h l;cases b with
  |nil=>exact absurd rfl l
  |cons y b=>simp[Op.bytesLess] at h
 |cons x a z=>intro b h l;cases b with
  |nil=>rfl
  |cons y b=>
   simp only[Op.bytesLess,kE,bB,Bool.and_eq_false_iff] at h;simp only[Op.bytesLess,gC,mH,aT,jo];by_cases e:x=y
   .subst e;refine .inr ⟨rfl,z b (h.2.resolve_left ai) λe=>l (by rw[e])⟩
   .refine .inl ?_;have w:=h.1;simp only[Ew] at w⊢
    have:x.toNat≠y.toNat:=λq=>e (UInt8.toNat.inj q)
    omega
theorem ri:∀(a b c:List UInt8),Op.bytesLess a b=true->Op.bytesLess b c=true->Op.bytesLess a c=true:=by intro a;induction a with
 |nil=>intro b c q l;cases c with
  |nil=>simp[Op.bytesLess] at l
  |cons z c=>rfl
 |cons x a w=>intro b c q l;cases b with
  |nil=>simp[Op.bytesLess] at q
  |cons y b=>cases c with
   |nil=>simp[Op.bytesLess] at l
   |cons z c=>
    simp only[Op.bytesLess,gC,mH,aT,jo,Ew] at q l⊢;rcases q with q|⟨rfl,q⟩
    .rcases l with l|⟨rfl,l⟩
     .exact .inl af
     .exact .inl q
    .rcases l with l|⟨rfl,l⟩
     .exact .inl l
     .exact .inr ⟨rfl,w b c q l⟩
theorem yB {a b:List UInt8} (h:Op.bytesLess a b=true):Op.bytesLess b a=false:=by cases e:Op.bytesLess b a with
 |false=>rfl
 |true=>have:=ri _ _ _ h e;rw[yC] at this;cases this
section
variable {α:Type} (lt:α->α->Bool)
def sg (x:α):List α->List α
 |[]=>[x]
 |y::l=>if lt x y=true then x::y::l else y::sg x l
def lu (l:List α):Prop:=l.Pairwise λa b=>lt b a=false
theorem KW {x:α} {p q:List α} (l:∀y∈p,lt x y=false) (w:∀y∈q,lt x y=true):sg lt x (p++q)=p++x::q:=by induction p with
 |nil=>cases q with
  |nil=>rfl
  |cons y q=>simp only[dU,sg];rw[aC (w y (iN ..))]
 |cons y p D=>simp only[gB,sg];rw[aA (by simp[l y (iN ..)]),D λz B=>l z (dF _ B)]
theorem Tx {x y:α}:∀{l:List α},y∈sg lt x l↔y=x\/y∈l:=by intro l;induction l with
 |nil=>simp[sg]
 |cons z l q=>
  simp only[sg];split
  .simp
  .simp only[aJ,q];constructor
   .rintro (h|h|h)<;>simp[h]
   .rintro (h|h|h)<;>simp[h]
theorem Tw {x:α}:∀{l:List α},(sg lt x l).length=l.length+1:=by intro l;induction l with
 |nil=>rfl
 |cons y l q=>simp only[sg];split<;>simp[q]
theorem xF (q:∀a b,lt a b=true->lt b a=false) (up:∀x y z,lt x y=true->lt z y=false->lt x z=true) {x:α}:∀{l:List α},lu lt l->lu lt (sg lt x l):=by intro l;induction l with
 |nil=>intro _;simp[sg,lu]
 |cons y l D=>
  intro B;simp only[lu,c7] at B;simp only[sg];split
  .rename_i h;simp only[lu,c7,aJ];refine⟨λz w=> ?_,B⟩;rcases w with rfl|w
   .exact q _ _ h
   .exact q _ _ (up _ _ _ h (B.1 z w))
  .rename_i h;simp only[lu,c7];refine⟨λz w=> ?_,D B.2⟩;rcases(Tx lt).1 w with rfl|w
   .simpa using h
   .exact B.1 z w
def oM (l:List α):List α:=l.foldl (λout x=>sg lt x out) []
end
end Go.AM
namespace Go.AM
abbrev Out:Type:=AV×List (Nat×Ob)
noncomputable def dec {T:Type} (E:T->Out) (c:Option Out):Option T:=
 match c with
 |some r=>open Classical in if h:∃x,E x=r then some h.choose else none
 |none=>none
def lV {T:Type} (E:T->Out) (c:Option Out) (t:Option T):Prop:=∀x,t=some x->c=some (E x)
def jN {T:Type} (E:T->Out) (c:Option Out):lV E c (dec E c):=by intro x l;cases c with
 |none=>simp[dec] at l
 |some r=>
  simp only[dec] at l;split at l
  .grind
  simp_all
def pX {T:Type} {E:T->Out} [fB E] {c:Option Out} {x:T} (h:c=some (E x)):dec E c=some x:=by
 subst h;have l:∃y,E y=E x:=⟨x,rfl⟩
 simp[dec,lC l];rw[fB.inj _ _ l.choose_spec]
section
variable {T:Type} {E:T->Out}
def Bf {c:Out} {x:T} (h:c=E x):lV E (some c) (some x):=by intro y l;simp_all
def vW {c c':Bool} {a b:Option Out} {l q:Option T} (B:c=c') (w:lV E a l) (z:lV E b q):lV E (bif c then a else b) (bif c' then l else q):=by grind
def SD {R:Type} {p:Prop} [Decidable p] {a:Option R} {x:R} (h:check p a=some x):p/\a=some x:=by simp_all[check]
def dG {R:Type} {p:Prop} [Decidable p] {a:Option R} (h:p):check p a=a:=by unfold check;simp_all
def jW {p l:Prop} [Decidable p] [Decidable l] {a:Option Out} {q:Option T} (w:l->p) (h:lV E a q):lV E (check p a) (check l q):=by intro x z;have:=SD z;rw[dG (w this.1)];exact h _ this.2
def abv {α w:Type} {enc:α->w} [fB enc] {L:List w} {l:List α} {i:Int} {k:α->Option Out} {k':α->Option T} (B:L=l.map enc) (h:∀x,lV E (k x) (k' x)):
  lV E (bp L i λc=>sj enc c k) (bp l i k'):=by
 subst B;intro x q;unfold bp at q⊢;split at q
 .rename_i z;rw[dV];cases e:l[i.toNat]? with
  |none=>simp_all
  |some y=>rw[e] at q;simp[ey,aC z];rw[kO];exact h _ _ q
 simp_all
def abw {α w:Type} {enc:α->w} [fB enc] {L:List w} {l:List α} {i:Nat} {k:α->Option Out} {k':α->Option T} (z:L=l.map enc) (h:∀x,lV E (k x) (k' x)):
  lV E (ef L i λc=>sj enc c k) (ef l i k'):=by
 subst z;intro x q;unfold ef at q⊢;rw[dV];cases e:l[i]? with
 |none=>simp_all
 |some y=>rw[e] at q;simp;rw[kO];exact h _ _ q
def afX {α w:Type} {enc:α->w} [fB enc] {L:List w} {l:List α} {i q:Int} {k:α->Option Out} {k':α->Option T} (B:L=l.map enc) (z:i=q) (h:∀x,lV E (k x) (k' x)):
  lV E (bp L i λc=>sj enc c k) (bp l q k'):=by
 subst z;exact abv B h
def afY {α w:Type} {enc:α->w} [fB enc] {L:List w} {l:List α} {i q:Nat} {k:α->Option Out} {k':α->Option T} (B:L=l.map enc) (z:i=q) (h:∀x,lV E (k x) (k' x)):
  lV E (ef L i λc=>sj enc c k) (ef l q k'):=by
 subst z;exact abw B h
def I_getb {α:Type} {l:List α} {i:Int} {k:α->Option Out} {k':α->Option T} (h:∀x,lV E (k x) (k' x)):lV E (bp l i k) (bp l i k'):=by
 intro x q;unfold bp at q⊢;split at q
 .rename_i w;rw[aC w];cases e:l[i.toNat]? with
  |none=>simp_all
  |some y=>rw[e] at q;exact h _ _ q
 simp_all
def bind_some {α l:Type} {f:Option α} {k:α->Option l} {x:l} (h:Option.bind f k=some x):∃y,f=some y/\k y=some x:=by cases f with
 |none=>simp at h
 |some y=>simp_all
def Ve {U:Type} {enc:U->AV} [fB enc] {l:U->Out} {c:Option Out} {f:Option U} {k:U->Option Out} {k':U->Option T} (B:lV l c f) (h:∀y,lV E (k y) (k' y)) (z:∀y,l y=(enc y,[]):=by intro _;rfl):
  lV E (yE c λr=>sj enc r k) (Option.bind f k'):=by
 intro x D;obtain⟨y,q,w⟩:=bind_some D;rw[B _ q,z,Su,kO];exact h _ _ w
def qQ {U V R:Type} (f:Option (U×V)) (k:U->V->Option R):Option R:=f.bind λp=>k p.1 p.2
def eO {U V W R:Type} (f:Option (U×V×W)) (k:U->V->W->Option R):Option R:=f.bind λp=>k p.1 p.2.1 p.2.2
def nx {l q w z R:Type} (f:Option (l×q×w×z)) (k:l->q->w->z->Option R):Option R:=f.bind λp=>k p.1 p.2.1 p.2.2.1 p.2.2.2
def HP {l q w z B R:Type} (f:Option (l×q×w×z×B)) (k:l->q->w->z->B->Option R):Option R:=f.bind λp=>k p.1 p.2.1 p.2.2.1 p.2.2.2.1 p.2.2.2.2
def Sh {l q w z B D R:Type} (f:Option (l×q×w×z×B×D)) (k:l->q->w->z->B->D->Option R):Option R:=f.bind λp=>k p.1 p.2.1 p.2.2.1 p.2.2.2.1 p.2.2.2.2.1 p.2.2.2.2.2
def gw {U V R:Type} (a:U) (b:V) (k:U->V->Option R):qQ (some (a,b)) k=k a b:=rfl
def bq {U V W R:Type} (a:U) (b:V) (c:W) (k:U->V->W->Option R):eO (some (a,b,c)) k=k a b c:=rfl
def Er {U V:Type} {enc:U->AV} [fB enc] {ee:V->List AV} [fB ee] {nm e sz:Nat} {l:U×List V->Out} {c:Option Out} {f:Option (U×List V)} {k:U->List V->Option Out} {k':U->List V->Option T}
  (B:lV l c f) (h:∀y xs,lV E (k y xs) (k' y xs)) (z:∀y,l y=(enc y.1,[(nm, .row e sz (y.2.map ee))]):=by intro _;rfl):
  lV E (HR c nm e sz λr c2=>sj enc r λy=>sj (List.map ee) c2 λxs=>k y xs) (qQ f k'):=by
 intro x D;obtain⟨y,q,w⟩:=bind_some D;rw[B _ q,z,SA,kO,kO];exact h _ _ _ w
end
section
variable {α R:Type}
def eM {l:List α} {i:Nat} {x:α} {xs:List α} (h:l.drop i=x::xs):i<l.length:=by have:=aU List.length h;grind
def j0 {l:List α} {i:Nat} (h:l.drop i=[]):l.length<=i:=by simp_all
def bU {l:List α} {i:Nat} {x:α} {xs:List α} (h:l.drop i=x::xs):l[i]? =some x:=by have:=aU (λm=>m[0]?) h;grind
def aI {l:List α} {i:Nat} {x:α} {xs:List α} (h:l.drop i=x::xs):l.drop (i+1)=xs:=by have:=aU (List.drop 1) h;grind[List.drop_drop]
def aR {l:List α} {i:Nat} {x:α} {xs:List α} (h:l.drop i=x::xs):decide ((i:Int)<(l.length:Int))=true:=by have:=eM h;simp_all
theorem bg {l:List α} {i:Nat} (h:l.drop i=[]):decide ((i:Int)<(l.length:Int))=false:=by simp_all
def aK {l:List α} {i:Nat} {x:α} {xs:List α} (h:l.drop i=x::xs) (k:α->Option R):bp l (i:Int) k=k x:=jd (bU h) k
def jP {l:List α} {i:Nat} {x:α} {xs:List α} (h:l.drop i=x::xs) (k:α->Option R):ef l (Int.toNat (i:Int)) k=k x:=by exact iE (bU h) k
def jQ {l:List α} {i:Nat} {x:α} {xs:List α} (h:l.drop i=x::xs) (a:Option R):check (0<=(i:Int)/\Int.toNat (i:Int)<l.length) a=a:=
 b9 ⟨af,by exact eM h⟩ a
def aN {l:List α} {i:Nat} {x:α} {xs:List α} (h:l.drop i=x::xs) (q:l.length<=1073741824):wrap .i64 ((i:Int)+1)=((i+1:Nat):Int):=
 bJ (by have:=eM h;omega)
def cF {n m c:Nat} (a:Option R) (h:n<=1073741824) (w:m<=1073741824) (l:c<=1024):check ((n+m) *c<=140737488355328/\n+m<=4611686018427387904) a=a:=by refine b9 ⟨?_,af⟩ a;have q:(n+m) *c<=(n+m) *1024:=Bq _ l;omega
def EW {l:List α} {i:Nat} (h:i<=l.length) (a:Option R):check (0<=(i:Int)/\(i:Int)<=((l.length:Nat):Int)) a=a:=b9 ⟨af,af⟩ a
def qO {n:Nat} (h:n<=1073741824):wrap .i64 (((n+1:Nat):Int)-1)=(n:Int):=by grind[oW]
def jy (p:α->Bool):List α->Nat->Int
 |[],_=> -1
 |x::xs,i=>if p x then(i:Int) else jy p xs (i+1)
theorem ak {α l:Type} (a:α) (k:α->Option l):Option.bind (some a) k=k a:=rfl
def cR {l:List α} {i:Nat} (h:i<l.length) (k:α->Option R):bp l (i:Int) k=k l[i]:=jd (aM h) k
def mQ {l:List α} {i:Nat} (h:i<l.length) (k:α->Option R):ef l i k=k l[i]:=iE (aM h) k
def BF {l:List α} {i:Nat} (h:i<l.length) (a:Option R):check (0<=(i:Int)/\Int.toNat (i:Int)<l.length) a=a:=
 b9 ⟨af,af⟩ a
end
def EN {U:Type} (enc:U->AV):U->Out:=λx=>(enc x,[])
instance {U:Type} {enc:U->AV} [fB enc]:fB (EN enc):=⟨λa b h=>fB.inj _ _ (aU Prod.fst h)⟩
section
variable {T:Type} {E:T->Out}
def Is {x:T}:lV E (some (E x)) (some x):=Bf rfl
def Iz {c:Option Out}:lV E c (dec E c):=jN _ _
def Ic {c:Bool} {a b:Option Out} {l q:Option T} (w:lV E a l) (z:lV E b q):lV E (bif c then a else b) (bif c then l else q):=vW rfl w z
def Ig {α q:Type} (enc:α->q) [fB enc] {l:List α} {i:Int} {k:α->Option Out} {k':α->Option T} (h:∀x,lV E (k x) (k' x)):lV E (bp (l.map enc) i λc=>sj enc c k) (bp l i k'):=abv rfl h
def In {α q:Type} (enc:α->q) [fB enc] {l:List α} {i:Nat} {k:α->Option Out} {k':α->Option T} (h:∀x,lV E (k x) (k' x)):lV E (ef (l.map enc) i λc=>sj enc c k) (ef l i k'):=abw rfl h
def Ik {U:Type} {enc:U->AV} [fB enc] {c:Option Out} {k:U->Option Out} {k':U->Option T} (h:∀y,lV E (k y) (k' y)):lV E (yE c λr=>sj enc r k) (Option.bind (dec (EN enc) c) k'):=Ve (jN _ _) h
end
def qT {T:Type} {E:T->Out} [fB E] {raw body c:Option Out} {t:Option T} {r:T} (w:t=some r) (l:lV E raw t) (q:body=raw) (h:∀{r:Out},body=some r->c=some r):dec E c=some r:=
 pX (h (q.trans (l _ w)))
class IZ (K:vV):Prop where
 is:∀a b:K.T,∃(inst:Decidable (a=b)),xG (K.enc a) (K.enc b)=some (decide (a=b))
section
variable {R:Type}
noncomputable def FD {K V:Type} (l:List (K×V)) (key:K):Option Nat:=open Classical in l.findIdx? λp=>decide (key=p.1)
noncomputable def uz {K V:Type} (l:List (K×V)) (key:K) (v:V):List (K×V):=match FD l key with
 |some i=>l.set i (key,v)
 |none=>l++[(key,v)]
noncomputable def getM {K V:Type} (l:List (K×V)) (key:K):Option V:=(FD l key).bind λi=>(l[i]?).map (·.2)
noncomputable def tD {K V:Type} (l:List (K×V)) (key:K) (k:V->Option R) (z:Option R):Option R:=match getM l key with
 |some v=>k v
 |none=>z
def yg {α:Type} (x:α) (k:α->Option R):Option R:=k x
end
theorem N0 {K:vV} [IZ K] {V:Type} (key:K.T):∀l:List (K.T×V),rz (K.enc key) (l.map λp=>K.enc p.1)=some (FD l key):=by intro l;induction l with
 |nil=>rfl
 |cons p l q=>
  obtain⟨inst,h⟩:=IZ.is (K:=K) _ _;rw[bM,rz,h];unfold FD;rw[vg];by_cases e:key=p.1
  .simp[e]
  .simp[q,e];rfl
theorem Y1 {K V:Type} {l:List (K×V)} {key:K} {i:Nat} (h:FD l key=some i):∃q:i<l.length,(l[i]'q).1=key:=by unfold FD at h;rw[zu] at h;grind
def wq {K V:vV} [fB K.enc] [fB V.enc]:∀{a b:List (K.T×V.T)},(fu K V a).1=(fu K V b).1->(fu K V a).2=(fu K V b).2->a=b:=by intro a;induction a with
 |nil=>simp_all[fu]
 |cons x a w=>intro b h l;cases b with
  |nil=>simp[fu] at h
  |cons y b=>simp[fu,bM,c9] at h l;obtain⟨z,B⟩:=x;obtain⟨D,F⟩:=y;have e1:z=D:=fB.inj _ _ h.1;have q:B=F:=fB.inj _ _ l.1;rw[e1,q,w h.2 l.2]
instance {K V:vV} [fB K.enc] [fB V.enc]:fB (fu K V):=⟨λa b h=>wq (aU Prod.fst h) (aU Prod.snd h)⟩
instance {K:vV} {E:Gk} [fB K.enc] [fB E.enc]:fB (Kz K E):=⟨λa b=>by
 induction a generalizing b with
 |nil=>intro h;cases b with
  |nil=>rfl
  |cons y b=>simp[Kz] at h
 |cons x a G=>intro h;cases b with
  |nil=>simp[Kz] at h
  |cons y b=>
   simp only[Kz,bM,ck,c9] at h;obtain⟨⟨B,D⟩,l,F⟩:=h;obtain⟨H,q⟩:=x;obtain⟨I,w⟩:=y;have z:q=w:=by
    cases q<;>cases w<;>simp only[ey,Bp,aW,reduceCtorEq] at l
    .rfl
    .rw[map_inj fB.inj _ _ l]
   have e1:H=I:=fB.inj _ _ B
   rw[e1,z,G b (by simp only[Kz];rw[D,F])]⟩
def aew {K V:vV} [IZ K] (key:K.T) (l:List (K.T×V.T)):WI (K.enc key) (fu K V l).1 (fu K V l).2=some ((getM l key).map V.enc):=by unfold WI fu getM;grind[N0,Y1]
theorem UK {K V:vV} {l:List (K.T×V.T)} {key:K.T} {v:V.T} {i:Nat} (h:FD l key=some i):fu K V (l.set i (key,v))=((fu K V l).1,(fu K V l).2.set i (V.enc v)):=by
 obtain⟨q,e⟩:=Y1 h;unfold fu;rw[ck];constructor
 .apply oh
  .simp
  grind
 simp
def aeA {K V:vV} [IZ K] (key:K.T) (v:V.T) (l:List (K.T×V.T)):D5 (K.enc key) (V.enc v) (fu K V l).1 (fu K V l).2=some (fu K V (uz l key v)):=by grind[fu,N0,D5,uz,UK]
section
variable {T:Type} {E:T->Out}
def I_look {K V:vV} [IZ K] [fB V.enc] {l:List (K.T×V.T)} {key:K.T} {k:V.T->Option Out} {k':V.T->Option T} {z:Option Out} {w:Option T} (h:∀y,lV E (k y) (k' y)) (B:lV E z w):
  lV E (NV (WI (K.enc key) (fu K V l).1 (fu K V l).2) (λv=>sj V.enc v k) z) (tD l key k' w):=by
 intro x q;unfold tD at q;unfold NV;rw[aew];cases e:getM l _ with
 |none=>rw[e] at q;exact B _ q
 |some v=>rw[e] at q;simp;rw[kO];exact h _ _ q
def I_put {K V:vV} [IZ K] [fB K.enc] [fB V.enc] {l:List (K.T×V.T)} {key:K.T} {a:AV} {v:V.T} {k:List (K.T×V.T)->Option Out} {k':List (K.T×V.T)->Option T} (q:a=V.enc v) (h:∀m,lV E (k m) (k' m)):
  lV E (W8 (D5 (K.enc key) a (fu K V l).1 (fu K V l).2) λp=>sj (fu K V) p k) (yg (uz l key v) k'):=by
 subst q;intro x w;unfold W8;rw[aeA];simp[kO];exact h _ _ w
def kX {A:Type} (enc:A->List AV) (k:Nat):A->List AV:=λx=>(enc x).set k .hole
abbrev qE {V:Type} (enc:V->List AV):List (Option (List V))->List (Option (List (List AV))):=List.map (Option.map (List.map enc))
instance {V:Type} (enc:V->List AV) [fB enc]:fB (qE enc):=⟨λa b h=>by
 refine map_inj (λx y e=> ?_) _ _ h;cases x<;>cases y<;>simp at e⊢
 exact map_inj fB.inj _ _ e⟩
instance {V:Type} (enc:V->List AV) [fB enc]:fB (List.map (Option.map (List.map enc))):=inferInstanceAs (fB (qE enc))
def WZ {R V:Type} (l:List (Option (List V))) (i:Nat) (k:List V->List (Option (List V))->Option R):Option R:=match l[i]? with
 |some (some q)=>k q (l.set i none)
 |_=>none
def uW {l A V:Type} (rD:l->List V->A):List l->List (Option (List V))->Option (List A)
 |[],[]=>some []
 |x::xs,some y::q=>(uW rD xs q).map (rD x y:: ·)
 |_,_=>none
def yz {R q A V:Type} (rD:q->List V->A) (xs:List q) (w:List (Option (List V))) (k:List A->Option R):Option R:=match uW rD xs w with
 |some l=>k l
 |none=>none
def I_out {V:Type} {enc:V->List AV} [fB enc] {Y:List (Option (List V))} {i:Nat} {k:List V->List (Option (List V))->Option Out} {k':List V->List (Option (List V))->Option T} (h:∀l y,lV E (k l y) (k' l y)):
  lV E (aaM (qE enc Y) i λc=>sj (List.map enc) c λl=>sj (qE enc) ((qE enc Y).set i none) λy=>k l y) (WZ Y i k'):=by
 intro x q;unfold WZ at q;split at q
 .rename_i l z;have e1:(qE enc Y)[i]? =some (some (l.map enc)):=by simp[z]
  have w:(qE enc Y).set i none=qE enc (Y.set i none):=by rw[qE,vh];rfl
  unfold aaM;rw[e1];simp only;rw[kO,w,kO];exact h _ _ _ q
 simp_all
def abx {V:Type} {enc:V->List AV} [fB enc] {Y:List (Option (List V))} {i:Nat} {L:List (List AV)} {l:List V} {k:List (Option (List V))->Option Out} {k':List (Option (List V))->Option T} (w:L=l.map enc) (h:∀y,lV E (k y) (k' y)):
  lV E (check (i<(qE enc Y).length) (sj (qE enc) ((qE enc Y).set i (some L)) k)) (check (i<Y.length) (yg (Y.set i (some l)) k')):=by
 subst w;refine jW ai ?_;have q:(qE enc Y).set i (some (l.map enc))=qE enc (Y.set i (some l)):=by rw[qE,vh];rfl
 rw[q,kO];exact h _
def Nq {B A V:Type} {w:B->List AV} {enc:A->List AV} {q:V->List AV} {rD:B->List V->A} {k s:Nat} (G:∀x z,(w x).set k (.dK s (z.map q))=enc (rD x z)):∀{xs:List B} {F:List (Option (List V))} {l:List A},uW rD xs F=some l->
  ∃c,pG (qE q F)=some c/\w5 k s (xs.map w) c=l.map enc
 |[],[],l,h=>by simp[uW,aW] at h;subst h;exact⟨[],rfl,rfl⟩
 |x::xs,some y::F,l,h=>by simp[uW,cu] at h;obtain⟨K,D,rfl⟩:=h;obtain⟨c,H,I⟩:=Nq G D;simp_all[pG,w5]
 |[],_::_,l,h=>by simp[uW] at h
 |_::_,[],l,h=>by simp[uW] at h
 |_::_,none::_,l,h=>by simp[uW] at h
def DK {l A V:Type} {DV:l->List AV} {enc:A->List AV} [fB enc] {Aa:V->List AV} {rD:l->List V->A} {q s:Nat} {xs:List l} {B:List (Option (List V))} {k:List A->Option Out} {k':List A->Option T} (h:∀m,lV E (k m) (k' m))
  (H:∀x z,(DV x).set q (.dK s (z.map Aa))=enc (rD x z):=by intro _ _;rfl):
  lV E (Sd (pG (qE Aa B)) λc=>sj (List.map enc) (w5 q s (xs.map DV) c) k) (yz rD xs B k'):=by
 intro x w;unfold yz at w;split at w
 .rename_i m G;obtain⟨c,D,F⟩:=Nq H G;unfold Sd;rw[D];simp only;rw[F,kO];exact h _ _ w
 simp_all
def J6 {A V:Type} {q:A->List AV} {rD:A->List V->A} {sub:A->List V} (D:∀x z,q (rD x z)=q x) (F:∀x z,sub (rD x z)=z):∀{xs:List A} {B:List (Option (List V))} {l:List A},uW rD xs B=some l->
  xs.map q=l.map q/\B=l.map λx=>some (sub x)
 |[],[],l,h=>by simp[uW] at h;simp_all
 |x::xs,some y::B,l,h=>by simp[uW,cu] at h;obtain⟨I,w,rfl⟩:=h;obtain⟨G,H⟩:=J6 D F w;simp_all
 |[],_::_,l,h=>by simp[uW] at h
 |_::_,[],l,h=>by simp[uW] at h
 |_::_,none::_,l,h=>by simp[uW] at h
def I_endN {A V:Type} {DV:A->List AV} {Aa:V->List AV} {rD:A->List V->A} (sub:A->List V) {xs:List A} {w:List (Option (List V))} {F:List (List AV)->List (Option (List (List AV)))->Out} {k':List A->Option T}
  (h:∀l:List A,lV E (some (F (l.map DV) (qE Aa (l.map λx=>some (sub x))))) (k' l)) (G:∀x z,DV (rD x z)=DV x:=by intro _ _;rfl) (I:∀x z,sub (rD x z)=z:=by intro _ _;rfl):
  lV E (some (F (xs.map DV) (qE Aa w))) (yz rD xs w k'):=by
 intro x q;unfold yz at q;split at q
 .rename_i m H;obtain⟨B,D⟩:=J6 G I H;rw[B,D];exact h _ _ q
 simp_all
def Xg {A V:Type} {l:A->List AV} {Aa:V->List AV} [fB Aa] {sub:A->List V} (q:∀a b,l a=l b->sub a=sub b->a=b):∀{x y:List A},x.map l=y.map l->qE Aa (x.map λa=>some (sub a))=qE Aa (y.map λa=>some (sub a))->x=y
 |[],[],_,_=>rfl
 |[],_::_,h,_=>by simp at h
 |_::_,[],h,_=>by simp at h
 |a::x,b::y,h,k=>by simp at h;have k:=fB.inj _ _ k;simp at k;rw[q a b h.1 k.1,Xg (Aa:=Aa) q h.2 (by rw[k.2])]
def IgX {A:Type} {iw enc:A->List AV} (l:iw=enc) [fB enc] {xs:List A} {i:Int} {k:A->Option Out} {k':A->Option T} (h:∀x,lV E (k x) (k' x)):lV E (bp (List.map iw xs) i λc=>sj enc c k) (bp xs i k'):=by subst l;exact Ig _ h
def abt {V:Type} {enc:V->List AV} [fB enc] {Y Z:List (Option (List V))} {k:List (Option (List V))->Option Out} {k':List (Option (List V))->Option T} (h:∀y,lV E (k y) (k' y)):
  lV E (sj (qE enc) (qE enc Y++qE enc Z) k) (yg (Y++Z) k'):=by
 have e:qE enc Y++qE enc Z=qE enc (Y++Z):=ai;rw[e,kO];exact h _
def OH {U:Type} {l:U->Out} {c:Option Out} {f:Option U} {q:AV->List (Nat×Ob)->Option Out} {k':U->Option T} (B:lV l c f) (h:∀y,lV E (q (l y).1 (l y).2) (k' y)):lV E (yF c q) (Option.bind f k'):=by intro x D;obtain⟨y,w,z⟩:=bind_some D;rw[B _ w];unfold yF;exact h _ _ z
def Be {U:Type} {l:U->Out} [fB l] {c:Option Out} {f:Option U} {k:U->Option Out} {k':U->Option T} (z:lV l c f) (h:∀y,lV E (k y) (k' y)):lV E (MX l c k) (Option.bind f k'):=by intro x B;obtain⟨y,q,w⟩:=bind_some B;rw[z _ q];unfold MX;simp only;rw[kO];exact h _ _ w
noncomputable abbrev genK2 {U V R:Type} (l:U×V->Out) (c:Option Out) (k:U->V->Option R):Option R:=MX l c λp=>k p.1 p.2
noncomputable abbrev genK3 {U V W R:Type} (l:U×V×W->Out) (c:Option Out) (k:U->V->W->Option R):Option R:=MX l c λp=>k p.1 p.2.1 p.2.2
noncomputable abbrev genK4 {l q w z R:Type} (B:l×q×w×z->Out) (c:Option Out) (k:l->q->w->z->Option R):Option R:=MX B c λp=>k p.1 p.2.1 p.2.2.1 p.2.2.2
def Gq {U V:Type} {l:U×V->Out} [fB l] {c:Option Out} {f:Option (U×V)} {k:U->V->Option Out} {k':U->V->Option T} (q:lV l c f) (h:∀y v,lV E (k y v) (k' y v)):lV E (genK2 l c k) (qQ f k'):=
 Be q λp=>h _ _
def JW {U V W:Type} {l:U×V×W->Out} [fB l] {c:Option Out} {f:Option (U×V×W)} {k:U->V->W->Option Out} {k':U->V->W->Option T} (q:lV l c f) (h:∀y v w,lV E (k y v w) (k' y v w)):lV E (genK3 l c k) (eO f k'):=
 Be q λp=>h _ _ _
def Vf {l q z B:Type} {D:l×q×z×B->Out} [fB D] {c:Option Out} {f:Option (l×q×z×B)} {k:l->q->z->B->Option Out} {k':l->q->z->B->Option T} (F:lV D c f) (h:∀y v w x,lV E (k y v w x) (k' y v w x)):lV E (genK4 D c k) (nx f k'):=
 Be F λp=>h _ _ _ _
noncomputable abbrev genK5 {l q w z B R:Type} (D:l×q×w×z×B->Out) (c:Option Out) (k:l->q->w->z->B->Option R):Option R:=MX D c λp=>k p.1 p.2.1 p.2.2.1 p.2.2.2.1 p.2.2.2.2
def I_gen5 {l q w z B:Type} {D:l×q×w×z×B->Out} [fB D] {c:Option Out} {f:Option (l×q×w×z×B)} {k:l->q->w->z->B->Option Out} {k':l->q->w->z->B->Option T} (F:lV D c f) (h:∀a b c d e,lV E (k a b c d e) (k' a b c d e)):lV E (genK5 D c k) (HP f k'):=
 Be F λp=>h _ _ _ _ _
def abu {U V W:Type} {l:U×V×W->Out} {c:Option Out} {f:Option (U×V×W)} {kk:AV->List (Nat×Ob)->Option Out} {k':U->V->W->Option T} (q:lV l c f) (h:∀y v w,lV E (kk (l (y,v,w)).1 (l (y,v,w)).2) (k' y v w)):lV E (yF c kk) (eO f k'):=
 OH q λp=>h _ _ _
def Bg {nm:Nat} {o:Ob} {l:List (Nat×Ob)} {k:Ob->List (Nat×Ob)->Option Out} {t:Option T} (h:lV E (k o l) t):lV E (mZ nm ((nm,o)::l) k) t:=by simp_all[mZ]
def XD {α:Type} {enc:α->List AV} [fB enc] {e sz:Nat} {xs:List α} {k:List α->Option Out} {t:Option T} (h:lV E (k xs) t):lV E (C8 e sz (.row e sz (xs.map enc)) λc=>sj (List.map enc) c k) t:=by
 have:(C8 e sz (.row e sz (xs.map enc)) λc=>sj (List.map enc) c k)=sj (List.map enc) (List.map enc xs) k:=by unfold C8;simp
 rw[this,kO];exact h
def Vg {o:Ob} {k:Option Out} {t:Option T} (h:lV E k t):lV E (wW o o k) t:=by unfold wW;simp_all
def I_nil {k:Option Out} {t:Option T} (h:lV E k t):lV E (Qa [] k) t:=by unfold Qa;exact h
def I_res {U:Type} {enc:U->AV} [fB enc] {y:U} {k:U->Option Out} {t:Option T} (h:lV E (k y) t):lV E (sj enc (enc y) k) t:=by rw[kO];exact h
end
