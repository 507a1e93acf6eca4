/- THE ABSTRACT MACHINE. -/
import Derived.Test.YthppjmoncapdfaaGreatDoorAmT
set_option linter.all false
open Go.IntKind (wrap)
open Int (toNat)
namespace Go.AM
class gI {T α:Type} (enc:T->α):Prop where
 inj:∀a b,enc a=enc b->a=b
def bZ (k:IntKind) (a:Int):List AV:=[.int k a]
def jr (s:List UInt8):List AV:=[.str s]
def qD (b:Bool):List AV:=[.bool b]
def gU {T:Type} (q:Nat) (enc:T->List AV) (l:List T):List AV:=[.dH q (l.map enc)]
def map_inj {T α:Type} {enc:T->α} (h:∀a b,enc a=enc b->a=b):∀(l m:List T),l.map enc=m.map enc->l=m:=by intro l;induction l with
 |nil=>intro m q;cases m with
  |nil=>rfl
  |cons x m=>simp at q
 |cons x l w=>intro m q;cases m with
  |nil=>simp at q
  |cons y m=>simp only[aR,dM] at q;rw[h _ _ q.1,w _ q.2]
instance {k:IntKind}:gI (bZ k):=⟨λa b h=>by simpa[bZ] using h⟩
instance:gI jr:=⟨λa b h=>by simpa[jr] using h⟩
instance:gI qD:=⟨λa b h=>by simpa[qD] using h⟩
instance {T α:Type} {enc:T->α} [gI enc]:gI (List.map enc):=⟨map_inj gI.inj⟩
instance {T:Type} {sz:Nat} {enc:T->List AV} [gI enc]:gI (gU sz enc):=⟨λa b h=>by
 simp only[gU,dM,AV.dH.injEq,fD,gB] at h
 exact map_inj gI.inj _ _ h⟩
section
variable {R:Type}
def jc {α T:Type} {enc:T->α} [gI enc] (d:T) (k:T->Option R):rP enc (enc d) k=k d:=asE_pos gI.inj d k
def PK (r:AV) (k:AV->Option R):wI (some (r,[])) k=k r:=Xs rfl k
def Fv (q e w:Nat) (r:AV) (xs:List (List AV)) (k:AV->List (List AV)->Option R):Dc (some (r,[(q, .row e w xs)])) q e w k=k r xs:=Xt rfl k
def sA {α:Type} [Inhabited α] {l:List α} {i:Nat} (h:i<l.length) (k:α->Option R):aV l (i:Int) k=k (l.getD i default):=
 ew (by rw[aK h,aX,aK h];rfl) k
def wM {α:Type} [Inhabited α] {l:List α} {i:Int} (q:0<=i) (h:i<l.length) (k:α->Option R):aV l i k=k (l.getD i.toNat default):=by obtain⟨n,rfl⟩:=eL q;exact sA af k
def VE {α:Type} [Inhabited α] {l:List α} {i:Nat} (h:i<l.length) (k:α->Option R):dY l i k=k (l.getD i default):=
 gE (by rw[aK h,aX,aK h];rfl) k
end
def YF (n:Int):wrap .i64 n=if 9223372036854775808<=n % 18446744073709551616 then n % 18446744073709551616-18446744073709551616 else n % 18446744073709551616:=by show(if(true&&decide (n % 18446744073709551616>=9223372036854775808))=true then n % 18446744073709551616-18446744073709551616 else n % 18446744073709551616)=_;simp only[gd,jV,ge_iff_le]
def ko {n:Int} (q: -9223372036854775808<=n) (w:n<=9223372036854775807):wrap .i64 n=n:=by rw[YF];split<;>omega
def Va (n:Int):wrap .u64 n=n % 18446744073709551616:=by show(if(false&&decide (n % 18446744073709551616>=9223372036854775808))=true then n % 18446744073709551616-18446744073709551616 else n % 18446744073709551616)=_;simp
theorem su {n:Int} (q:0<=n) (w:n<=18446744073709551615):wrap .u64 n=n:=by rw[Va];omega
def bl {i:Nat} (h:i<4611686018427387904):wrap .i64 ((i:Int)+1)=((i+1:Nat):Int):=by rw[ko af af];omega
def cond_pos {α:Type} {b:Bool} (h:b=true) (x y:α):cond b x y=x:=by subst h;rfl
def cond_neg {α:Type} {b:Bool} (h:b=false) (x y:α):cond b x y=y:=by subst h;rfl
end Go.AM
namespace Go.AM
def KZ (a:List UInt8):Op.bytesLess a a=false:=by induction a with
 |nil=>rfl
 |cons x a q=>simp[Op.bytesLess,q]
def zB:∀(a b:List UInt8),Op.bytesLess a b=false->a≠b->Op.bytesLess b a=true:=by intro a;induction a with
 |nil=>intro b h q;cases b with
  |nil=>exact absurd rfl q
  |cons y b=>simp[Op.bytesLess] at h
 |cons x a B=>intro b h q;cases b with
  |nil=>rfl
  |cons y b=>
   simp only[Op.bytesLess,mE,bM,Bool.and_eq_false_iff] at h;simp only[Op.bytesLess,fo,jV,aI,ga];by_cases e:x=y
   .subst e;refine .inr ⟨rfl,B b (h.2.resolve_left ah) λe=>q (by rw[e])⟩
   .refine .inl ?_;have z:=h.1;simp only[CK] at z⊢
    have:x.toNat≠y.toNat:=λw=>e (UInt8.toNat.inj w)
    omega
def Da:∀(a b c:List UInt8),Op.bytesLess a b=true->Op.bytesLess b c=true->Op.bytesLess a c=true:=by intro a;induction a with
 |nil=>intro b c w q;cases c with
  |nil=>simp[Op.bytesLess] at q
  |cons z c=>rfl
 |cons x a B=>intro b c w q;cases b with
  |nil=>simp[Op.bytesLess] at w
  |cons y b=>cases c with
   |nil=>simp[Op.bytesLess] at q
   |cons z c=>
    simp only[Op.bytesLess,fo,jV,aI,ga,CK] at w q⊢;rcases w with w|⟨rfl,w⟩
    .rcases q with q|⟨rfl,q⟩
     .exact .inl af
     .exact .inl w
    .rcases q with q|⟨rfl,q⟩
     .exact .inl q
     .exact .inr ⟨rfl,B b c w q⟩
def sS {a b:List UInt8} (h:Op.bytesLess a b=true):Op.bytesLess b a=false:=by cases e:Op.bytesLess b a with
 |false=>rfl
 |true=>have:=Da _ _ _ h e;rw[KZ] at this;cases this
section
variable {α:Type} (lt:α->α->Bool)
def pY (x:α):List α->List α
 |[]=>[x]
 |y::l=>if lt x y=true then x::y::l else y::pY x l
def lY (l:List α):Prop:=l.Pairwise λa b=>lt b a=false
def Iy {x:α} {p q:List α} (w:∀y∈p,lt x y=false) (B:∀y∈q,lt x y=true):pY lt x (p++q)=p++x::q:=by induction p with
 |nil=>cases q with
  |nil=>rfl
  |cons y q=>simp only[dw,pY];rw[au (B y (qQ ..))]
 |cons y p F=>simp only[e7,pY];rw[aq (by simp[w y (qQ ..)]),F λz D=>w z (er _ D)]
def QE {x y:α}:∀{l:List α},y∈pY lt x l↔y=x\/y∈l:=by intro l;induction l with
 |nil=>simp[pY]
 |cons z l q=>
  simp only[pY];split
  .simp
  .simp only[aF,q];constructor
   .rintro (h|h|h)<;>simp[h]
   .rintro (h|h|h)<;>simp[h]
def QD {x:α}:∀{l:List α},(pY lt x l).length=l.length+1:=by intro l;induction l with
 |nil=>rfl
 |cons y l q=>simp only[pY];split<;>simp[q]
def zM (q:∀a b,lt a b=true->lt b a=false) (up:∀x y z,lt x y=true->lt z y=false->lt x z=true) {x:α}:∀{l:List α},lY lt l->lY lt (pY lt x l):=by intro l;induction l with
 |nil=>intro _;simp[pY,lY]
 |cons y l D=>
  intro B;simp only[lY,dr] at B;simp only[pY];split
  .rename_i h;simp only[lY,dr,aF];refine⟨λz w=> ?_,B⟩;rcases w with rfl|w
   .exact q _ _ h
   .exact q _ _ (up _ _ _ h (B.1 z w))
  .rename_i h;simp only[lY,dr];refine⟨λz w=> ?_,D B.2⟩;rcases(QE lt).1 w with rfl|w
   .simpa using h
   .exact B.1 z w
def lC (l:List α):List α:=l.foldl (λout x=>pY lt x out) []
end
end Go.AM
namespace Go.AM
abbrev Out:Type:=AV×List (Nat×Ob)
noncomputable def dec {T:Type} (E:T->Out) (c:Option Out):Option T:=
 match c with
 |some r=>open Classical in if h:∃x,E x=r then some h.choose else none
 |none=>none
def mB {T:Type} (E:T->Out) (c:Option Out) (t:Option T):Prop:=∀x,t=some x->c=some (E x)
def jd {T:Type} (E:T->Out) (c:Option Out):mB E c (dec E c):=by intro x q;cases c with
 |none=>simp[dec] at q
 |some r=>
  simp only[dec] at q;split at q
  .rename_i h;have:=h.choose_spec;simp only[aM] at q;rw[<-q,this]
  .simp at q
def iS {T:Type} {E:T->Out} [gI E] {c:Option Out} {x:T} (h:c=some (E x)):dec E c=some x:=by
 subst h;have q:∃y,E y=E x:=⟨x,rfl⟩
 simp only[dec,jU q];rw[gI.inj _ _ q.choose_spec]
section
variable {T:Type} {E:T->Out}
def L0 {c:Out} {x:T} (h:c=E x):mB E (some c) (some x):=by intro y q;simp only[aM] at q;subst q;rw[h]
def zf {c c':Bool} {a b:Option Out} {q w:Option T} (D:c=c') (z:mB E a q) (B:mB E b w):mB E (bif c then a else b) (bif c' then q else w):=by
 subst D;cases c
 .exact B
 .exact z
def PU {R:Type} {p:Prop} [Decidable p] {a:Option R} {x:R} (h:check p a=some x):p/\a=some x:=by
 unfold check at h;split at h
 .exact⟨by assumption,h⟩
 .simp at h
def S9 {R:Type} {p:Prop} [Decidable p] {a:Option R} (h:p):check p a=a:=by unfold check;rw[au h]
def fS {p q:Prop} [Decidable p] [Decidable q] {a:Option Out} {w:Option T} (z:q->p) (h:mB E a w):mB E (check p a) (check q w):=by intro x B;have:=PU B;rw[S9 (z this.1)];exact h _ this.2
def YW {α β:Type} {enc:α->β} [gI enc] {L:List β} {l:List α} {i:Int} {k:α->Option Out} {k':α->Option T} (z:L=l.map enc) (h:∀x,mB E (k x) (k' x)):
  mB E (aV L i λc=>rP enc c k) (aV l i k'):=by
 subst z;intro x q;unfold aV at q⊢;split at q
 .rename_i w;rw[dB];cases e:l[i.toNat]? with
  |none=>rw[e] at q;simp at q
  |some y=>rw[e] at q;simp only[cQ,au w];rw[jc];exact h _ _ q
 .simp at q
def Sw {α β:Type} {enc:α->β} [gI enc] {L:List β} {l:List α} {i:Nat} {k:α->Option Out} {k':α->Option T} (w:L=l.map enc) (h:∀x,mB E (k x) (k' x)):
  mB E (dY L i λc=>rP enc c k) (dY l i k'):=by
 subst w;intro x q;unfold dY at q⊢;rw[dB];cases e:l[i]? with
 |none=>rw[e] at q;simp at q
 |some y=>rw[e] at q;simp only[cQ];rw[jc];exact h _ _ q
def Vf {α β:Type} {enc:α->β} [gI enc] {L:List β} {l:List α} {i q:Int} {k:α->Option Out} {k':α->Option T} (z:L=l.map enc) (w:i=q) (h:∀x,mB E (k x) (k' x)):
  mB E (aV L i λc=>rP enc c k) (aV l q k'):=by
 subst w;exact YW z h
def adA {α β:Type} {enc:α->β} [gI enc] {L:List β} {l:List α} {i q:Nat} {k:α->Option Out} {k':α->Option T} (z:L=l.map enc) (w:i=q) (h:∀x,mB E (k x) (k' x)):
  mB E (dY L i λc=>rP enc c k) (dY l q k'):=by
 subst w;exact Sw z h
def I_getb {α:Type} {l:List α} {i:Int} {k:α->Option Out} {k':α->Option T} (h:∀x,mB E (k x) (k' x)):mB E (aV l i k) (aV l i k'):=by
 intro x q;unfold aV at q⊢;split at q
 .rename_i w;rw[au w];cases e:l[i.toNat]? with
  |none=>rw[e] at q;simp at q
  |some y=>rw[e] at q;exact h _ _ q
 .simp at q
def bind_some {α β:Type} {f:Option α} {k:α->Option β} {x:β} (h:Option.bind f k=some x):∃y,f=some y/\k y=some x:=by cases f with
 |none=>simp at h
 |some y=>exact⟨y,rfl,h⟩
def I_call {U:Type} {enc:U->AV} [gI enc] {q:U->Out} {c:Option Out} {f:Option U} {k:U->Option Out} {k':U->Option T} (D:mB q c f) (h:∀y,mB E (k y) (k' y)) (B:∀y,q y=(enc y,[]):=by intro _;rfl):
  mB E (wI c λr=>rP enc r k) (Option.bind f k'):=by
 intro x F;obtain⟨y,w,z⟩:=bind_some F;rw[D _ w,B,PK,jc];exact h _ _ z
def Bg {U V R:Type} (f:Option (U×V)) (k:U->V->Option R):Option R:=f.bind λp=>k p.1 p.2
def Bh {U V W R:Type} (f:Option (U×V×W)) (k:U->V->W->Option R):Option R:=f.bind λp=>k p.1 p.2.1 p.2.2
def Yn {U R:Type} (o:Option U) (k:U->Option R):Option R:=match o with
 |some x=>k x
 |none=>none
def tF {q w z B R:Type} (f:Option (q×w×z×B)) (k:q->w->z->B->Option R):Option R:=f.bind λp=>k p.1 p.2.1 p.2.2.1 p.2.2.2
def Ft {q w z B D R:Type} (f:Option (q×w×z×B×D)) (k:q->w->z->B->D->Option R):Option R:=f.bind λp=>k p.1 p.2.1 p.2.2.1 p.2.2.2.1 p.2.2.2.2
def PB {q w z B D F R:Type} (f:Option (q×w×z×B×D×F)) (k:q->w->z->B->D->F->Option R):Option R:=f.bind λp=>k p.1 p.2.1 p.2.2.1 p.2.2.2.1 p.2.2.2.2.1 p.2.2.2.2.2
def rW {U V R:Type} (a:U) (b:V) (k:U->V->Option R):Bg (some (a,b)) k=k a b:=rfl
def jK {U V W R:Type} (a:U) (b:V) (c:W) (k:U->V->W->Option R):Bh (some (a,b,c)) k=k a b c:=rfl
def ady {U V:Type} {enc:U->AV} [gI enc] {q:V->List AV} [gI q] {z e B:Nat} {w:U×List V->Out} {c:Option Out} {f:Option (U×List V)} {k:U->List V->Option Out} {k':U->List V->Option T}
  (H:mB w c f) (h:∀y xs,mB E (k y xs) (k' y xs)) (G:∀y,w y=(enc y.1,[(z, .row e B (y.2.map q))]):=by intro _;rfl):
  mB E (Dc c z e B λr c2=>rP enc r λy=>rP (List.map q) c2 λxs=>k y xs) (Bg f k'):=by
 intro x I;obtain⟨y,D,F⟩:=bind_some I;rw[H _ D,G,Fv,jc,jc];exact h _ _ _ F
end
section
variable {α R:Type}
def c7 {l:List α} {i:Nat} {x:α} {xs:List α} (h:l.drop i=x::xs):i<l.length:=by have:=aJ List.length h;simp only[xC,bg] at this;omega
def iF {l:List α} {i:Nat} (h:l.drop i=[]):l.length<=i:=by have:=aJ List.length h;simp only[xC,ek] at this;omega
def bB {l:List α} {i:Nat} {x:α} {xs:List α} (h:l.drop i=x::xs):l[i]? =some x:=by have:=aJ (λm=>m[0]?) h;simpa using this
def aG {l:List α} {i:Nat} {x:α} {xs:List α} (h:l.drop i=x::xs):l.drop (i+1)=xs:=by have:=aJ (List.drop 1) h;simpa[qR,sO] using this
def aZ {l:List α} {i:Nat} {x:α} {xs:List α} (h:l.drop i=x::xs):decide ((i:Int)<(l.length:Int))=true:=by have:=c7 h;simp;omega
def bp {l:List α} {i:Nat} (h:l.drop i=[]):decide ((i:Int)<(l.length:Int))=false:=by have:=iF h;simp;omega
def aQ {l:List α} {i:Nat} {x:α} {xs:List α} (h:l.drop i=x::xs) (k:α->Option R):aV l (i:Int) k=k x:=ew (bB h) k
def sR {l:List α} {i:Nat} {x:α} {xs:List α} (h:l.drop i=x::xs) (k:α->Option R):dY l (toNat (i:Int)) k=k x:=by rw[aP];exact gE (bB h) k
def sU {l:List α} {i:Nat} {x:α} {xs:List α} (h:l.drop i=x::xs) (a:Option R):check (0<=(i:Int)/\toNat (i:Int)<l.length) a=a:=
 bh ⟨af,by rw[aP];exact c7 h⟩ a
def aY {l:List α} {i:Nat} {x:α} {xs:List α} (h:l.drop i=x::xs) (q:l.length<=1073741824):wrap .i64 ((i:Int)+1)=((i+1:Nat):Int):=
 bl (by have:=c7 h;omega)
def bT {n m c:Nat} (a:Option R) (h:n<=1073741824) (z:m<=1073741824) (q:c<=1024):check ((n+m) *c<=140737488355328/\n+m<=4611686018427387904) a=a:=by refine bh ⟨?_,af⟩ a;have w:(n+m) *c<=(n+m) *1024:=Fl _ q;omega
def Dh {l:List α} {i:Nat} (h:i<=l.length) (a:Option R):check (0<=(i:Int)/\(i:Int)<=((l.length:Nat):Int)) a=a:=bh ⟨af,af⟩ a
def xq {n:Nat} (h:n<=1073741824):wrap .i64 (((n+1:Nat):Int)-1)=(n:Int):=by rw[ko af af];omega
def gJ (p:α->Bool):List α->Nat->Int
 |[],_=> -1
 |x::xs,i=>if p x then(i:Int) else gJ p xs (i+1)
def ak {α β:Type} (a:α) (k:α->Option β):Option.bind (some a) k=k a:=rfl
def bR {l:List α} {i:Nat} (h:i<l.length) (k:α->Option R):aV l (i:Int) k=k l[i]:=ew (aK h) k
def Dw {l:List α} {i:Nat} (h:i<l.length) (k:α->Option R):dY l i k=k l[i]:=gE (aK h) k
def Ta {l:List α} {i:Nat} (h:i<l.length) (a:Option R):check (0<=(i:Int)/\toNat (i:Int)<l.length) a=a:=
 bh ⟨af,by rw[aP];exact h⟩ a
end
def EN {U:Type} (enc:U->AV):U->Out:=λx=>(enc x,[])
instance {U:Type} {enc:U->AV} [gI enc]:gI (EN enc):=⟨λa b h=>gI.inj _ _ (aJ Prod.fst h)⟩
section
variable {T:Type} {E:T->Out}
def Is {x:T}:mB E (some (E x)) (some x):=L0 rfl
def Iz {c:Option Out}:mB E c (dec E c):=jd _ _
def Ic {c:Bool} {a b:Option Out} {q w:Option T} (z:mB E a q) (B:mB E b w):mB E (bif c then a else b) (bif c then q else w):=zf rfl z B
def Ih {p:Prop} [Decidable p] {a:Option Out} {q:Option T} (h:mB E a q):mB E (check p a) (check p q):=fS id h
def Ig {α β:Type} (enc:α->β) [gI enc] {l:List α} {i:Int} {k:α->Option Out} {k':α->Option T} (h:∀x,mB E (k x) (k' x)):mB E (aV (l.map enc) i λc=>rP enc c k) (aV l i k'):=YW rfl h
def In {α β:Type} (enc:α->β) [gI enc] {l:List α} {i:Nat} {k:α->Option Out} {k':α->Option T} (h:∀x,mB E (k x) (k' x)):mB E (dY (l.map enc) i λc=>rP enc c k) (dY l i k'):=Sw rfl h
def Ik {U:Type} {enc:U->AV} [gI enc] {c:Option Out} {k:U->Option Out} {k':U->Option T} (h:∀y,mB E (k y) (k' y)):mB E (wI c λr=>rP enc r k) (Option.bind (dec (EN enc) c) k'):=I_call (jd _ _) h
end
def nR {T:Type} {E:T->Out} [gI E] {raw body c:Option Out} {t:Option T} {r:T} (z:t=some r) (q:mB E raw t) (w:body=raw) (h:∀{r:Out},body=some r->c=some r):dec E c=some r:=
 iS (h (w.trans (q _ z)))
class Gh (K:rU):Prop where
 is:∀a b:K.T,∃(inst:Decidable (a=b)),vF (K.enc a) (K.enc b)=some (decide (a=b))
section
variable {R:Type}
noncomputable def zZ {K V:Type} (l:List (K×V)) (key:K):Option Nat:=open Classical in l.findIdx? λp=>decide (key=p.1)
noncomputable def wA {K V:Type} (l:List (K×V)) (key:K) (v:V):List (K×V):=match zZ l key with
 |some i=>l.set i (key,v)
 |none=>l++[(key,v)]
noncomputable def getM {K V:Type} (l:List (K×V)) (key:K):Option V:=(zZ l key).bind λi=>(l[i]?).map (·.2)
noncomputable def tH {K V:Type} (l:List (K×V)) (key:K) (k:V->Option R) (z:Option R):Option R:=match getM l key with
 |some v=>k v
 |none=>z
def tA {α:Type} (x:α) (k:α->Option R):Option R:=k x
end
def Lo {K:rU} [Gh K] {V:Type} (key:K.T):∀l:List (K.T×V),pH (K.enc key) (l.map λp=>K.enc p.1)=some (zZ l key):=by intro l;induction l with
 |nil=>rfl
 |cons p l q=>
  obtain⟨inst,h⟩:=Gh.is (K:=K) key p.1;rw[aR,pH,h];unfold zZ;rw[tN];by_cases e:key=p.1
  .simp[e]
  .have:decide (key=p.1)=false:=by simpa using e
   rw[this];simp only[q,cQ,e,tO,cU,ez];rfl
def WA {K V:Type} {l:List (K×V)} {key:K} {i:Nat} (h:zZ l key=some i):∃q:i<l.length,(l[i]'q).1=key:=by unfold zZ at h;rw[xD] at h;obtain⟨q,w,_⟩:=h;simp only[jV] at w;exact⟨q,w.symm⟩
def yg {K V:rU} [gI K.enc] [gI V.enc]:∀{a b:List (K.T×V.T)},(dN K V a).1=(dN K V b).1->(dN K V a).2=(dN K V b).2->a=b:=by intro a;induction a with
 |nil=>intro b h _;cases b with
  |nil=>rfl
  |cons x b=>simp[dN] at h
 |cons x a z=>intro b h q;cases b with
  |nil=>simp[dN] at h
  |cons y b=>simp only[dN,aR,dM] at h q;obtain⟨x1,x2⟩:=x;obtain⟨B,D⟩:=y;have e1:x1=B:=gI.inj _ _ h.1;have w:x2=D:=gI.inj _ _ q.1;rw[e1,w,z h.2 q.2]
instance {K V:rU} [gI K.enc] [gI V.enc]:gI (dN K V):=⟨λa b h=>yg (aJ Prod.fst h) (aJ Prod.snd h)⟩
instance {U:Type} {enc:U->List AV} [gI enc]:gI (Tp enc):=⟨λa b h=>by
 cases a<;>cases b<;>simp only[Tp,AV.ref.injEq,reduceCtorEq] at h
 .rfl
 .rw[gI.inj _ _ h]⟩
instance {K:rU} {E:Ff} [gI K.enc] [gI E.enc]:gI (HZ K E):=⟨λa b=>by
 induction a generalizing b with
 |nil=>intro h;cases b with
  |nil=>rfl
  |cons y b=>simp[HZ] at h
 |cons x a G=>intro h;cases b with
  |nil=>simp[HZ] at h
  |cons y b=>
   simp only[HZ,aR,bz,dM] at h;obtain⟨⟨B,D⟩,q,F⟩:=h;obtain⟨x1,x2⟩:=x;obtain⟨H,w⟩:=y;have z:x2=w:=by
    cases x2<;>cases w<;>simp only[cQ,zm,aM,reduceCtorEq] at q
    .rfl
    .rw[map_inj gI.inj _ _ q]
   have e1:x1=H:=gI.inj _ _ B
   rw[e1,z,G b (by simp only[HZ];rw[D,F])]⟩
def ach {K V:rU} [Gh K] (key:K.T) (l:List (K.T×V.T)):Ul (K.enc key) (dN K V l).1 (dN K V l).2=some ((getM l key).map V.enc):=by unfold Ul dN getM;rw[Lo];cases h:zZ l key with
 |none=>rfl
 |some i=>obtain⟨q,_⟩:=WA h;simp[aK q]
def RS {K V:rU} {l:List (K.T×V.T)} {key:K.T} {v:V.T} {i:Nat} (h:zZ l key=some i):dN K V (l.set i (key,v))=((dN K V l).1,(dN K V l).2.set i (V.enc v)):=by
 obtain⟨B,e⟩:=WA h;unfold dN;rw[bz];constructor
 .rw[jj];apply oC
  .simp
  .intro j w z;rw[List.getElem_set];split
   .rename_i q;subst q;simp[e]
   .rfl
 .rw[jj]
def ack {K V:rU} [Gh K] (key:K.T) (v:V.T) (l:List (K.T×V.T)):B8 (K.enc key) (V.enc v) (dN K V l).1 (dN K V l).2=some (dN K V (wA l key v)):=by have q:pH (K.enc key) (dN K V l).1=some (zZ l key):=Lo key l;unfold B8 wA;rw[q];cases h:zZ l key with
 |none=>simp[dN]
 |some i=>simp only[RS h]
section
variable {T:Type} {E:T->Out}
def I_look {K V:rU} [Gh K] [gI V.enc] {l:List (K.T×V.T)} {key:K.T} {k:V.T->Option Out} {k':V.T->Option T} {z:Option Out} {w:Option T} (h:∀y,mB E (k y) (k' y)) (B:mB E z w):
  mB E (Ll (Ul (K.enc key) (dN K V l).1 (dN K V l).2) (λv=>rP V.enc v k) z) (tH l key k' w):=by
 intro x q;unfold tH at q;unfold Ll;rw[ach];cases e:getM l key with
 |none=>rw[e] at q;exact B _ q
 |some v=>rw[e] at q;simp only[cQ];rw[jc];exact h _ _ q
def I_put {K V:rU} [Gh K] [gI K.enc] [gI V.enc] {l:List (K.T×V.T)} {key:K.T} {a:AV} {v:V.T} {k:List (K.T×V.T)->Option Out} {k':List (K.T×V.T)->Option T} (q:a=V.enc v) (h:∀m,mB E (k m) (k' m)):
  mB E (UH (B8 (K.enc key) a (dN K V l).1 (dN K V l).2) λp=>rP (dN K V) p k) (tA (wA l key v) k'):=by
 subst q;intro x w;unfold UH;rw[ack];simp only[jc];exact h _ _ w
def jA {A:Type} (enc:A->List AV) (k:Nat):A->List AV:=λx=>(enc x).set k .hole
abbrev oT {V:Type} (enc:V->List AV):List (Option (List V))->List (Option (List (List AV))):=List.map (Option.map (List.map enc))
instance {V:Type} (enc:V->List AV) [gI enc]:gI (oT enc):=⟨λa b h=>by
 refine map_inj (λx y e=> ?_) _ _ h;cases x<;>cases y<;>simp at e⊢
 exact map_inj gI.inj _ _ e⟩
instance {V:Type} (enc:V->List AV) [gI enc]:gI (List.map (Option.map (List.map enc))):=inferInstanceAs (gI (oT enc))
def Rr {R V:Type} (q:List (Option (List V))) (i:Nat) (k:List V->List (Option (List V))->Option R):Option R:=match q[i]? with
 |some (some w)=>k w (q.set i none)
 |_=>none
def nrT {R V:Type} (q:List (Option (List V))) (i:Nat) (k:List V->Option R):Option R:=match q[i]? with
 |some (some w)=>k w
 |_=>none
def Bc {q A V:Type} (rL:q->List V->A):List q->List (Option (List V))->Option (List A)
 |[],[]=>some []
 |x::xs,some y::w=>(Bc rL xs w).map (rL x y:: ·)
 |_,_=>none
def Py {R q A V:Type} (rL:q->List V->A) (xs:List q) (w:List (Option (List V))) (k:List A->Option R):Option R:=match Bc rL xs w with
 |some l=>k l
 |none=>none
def I_nr {V:Type} {enc:V->List AV} [gI enc] {Y:List (Option (List V))} {i:Nat} {k:List V->Option Out} {k':List V->Option T} (h:∀w,mB E (k w) (k' w)):
  mB E (Rq (oT enc Y) i λc=>rP (List.map enc) c k) (nrT Y i k'):=by
 intro x q;unfold nrT at q;split at q
 .rename_i w z;have e1:(oT enc Y)[i]? =some (some (w.map enc)):=by simp[z]
  unfold Rq;rw[e1];simp only;rw[jc];exact h _ _ q
 .cases q
def YX {V:Type} {enc:V->List AV} [gI enc] {Y:List (Option (List V))} {i:Nat} {k:List V->List (Option (List V))->Option Out} {k':List V->List (Option (List V))->Option T} (h:∀q y,mB E (k q y) (k' q y)):
  mB E (Rq (oT enc Y) i λc=>rP (List.map enc) c λq=>rP (oT enc) ((oT enc Y).set i none) λy=>k q y) (Rr Y i k'):=by
 intro x w;unfold Rr at w;split at w
 .rename_i q B;have e1:(oT enc Y)[i]? =some (some (q.map enc)):=by simp[B]
  have z:(oT enc Y).set i none=oT enc (Y.set i none):=by rw[oT,jj];rfl
  unfold Rq;rw[e1];simp only;rw[jc,z,jc];exact h _ _ _ w
 .cases w
def LZ {V:Type} {enc:V->List AV} [gI enc] {Y:List (Option (List V))} {i:Nat} {L:List (List AV)} {q:List V} {k:List (Option (List V))->Option Out} {k':List (Option (List V))->Option T} (z:L=q.map enc) (h:∀y,mB E (k y) (k' y)):
  mB E (check (i<(oT enc Y).length) (rP (oT enc) ((oT enc Y).set i (some L)) k)) (check (i<Y.length) (tA (Y.set i (some q)) k')):=by
 subst z;refine fS ah ?_;have w:(oT enc Y).set i (some (q.map enc))=oT enc (Y.set i (some q)):=by rw[oT,jj];rfl
 rw[w,jc];exact h _
def KW {B A V:Type} {w:B->List AV} {enc:A->List AV} {q:V->List AV} {rL:B->List V->A} {k s:Nat} (H:∀x z,(w x).set k (.dH s (z.map q))=enc (rL x z)):∀{xs:List B} {F:List (Option (List V))} {l:List A},Bc rL xs F=some l->
  ∃c,oQ (oT q F)=some c/\wC k s (xs.map w) c=l.map enc
 |[],[],l,h=>by simp only[Bc,aM] at h;subst h;exact⟨[],rfl,rfl⟩
 |x::xs,some y::F,l,h=>by
  simp only[Bc,bY] at h;obtain⟨K,D,rfl⟩:=h;obtain⟨c,G,I⟩:=KW H D;refine⟨y.map q::c,?_,?_⟩
  .simp only[oT,aR,cQ,oQ] at G⊢;rw[G];rfl
  .simp only[aR,wC,H,I]
 |[],_::_,l,h=>by simp[Bc] at h
 |_::_,[],l,h=>by simp[Bc] at h
 |_::_,none::_,l,h=>by simp[Bc] at h
def Sv {B A V:Type} {ZK:B->List AV} {enc:A->List AV} [gI enc] {ZJ:V->List AV} {rL:B->List V->A} {q s:Nat} {xs:List B} {D:List (Option (List V))} {k:List A->Option Out} {k':List A->Option T} (h:∀m,mB E (k m) (k' m))
  (I:∀x z,(ZK x).set q (.dH s (z.map ZJ))=enc (rL x z):=by intro _ _;rfl):
  mB E (SG (oQ (oT ZJ D)) λc=>rP (List.map enc) (wC q s (xs.map ZK) c) k) (Py rL xs D k'):=by
 intro x w;unfold Py at w;split at w
 .rename_i m H;obtain⟨c,F,G⟩:=KW I H;unfold SG;rw[F];simp only;rw[G,jc];exact h _ _ w
 .cases w
def LX {V:Type} {enc:V->List AV} [gI enc] {Y Z:List (Option (List V))} {k:List (Option (List V))->Option Out} {k':List (Option (List V))->Option T} (h:∀y,mB E (k y) (k' y)):
  mB E (rP (oT enc) (oT enc Y++oT enc Z) k) (tA (Y++Z) k'):=by
 have e:oT enc Y++oT enc Z=oT enc (Y++Z):=by rw[oT,bJ]
 rw[e,jc];exact h _
def LY {U:Type} {q:U->Out} {c:Option Out} {f:Option U} {w:AV->List (Nat×Ob)->Option Out} {k':U->Option T} (D:mB q c f) (h:∀y,mB E (w (q y).1 (q y).2) (k' y)):mB E (vw c w) (Option.bind f k'):=by intro x F;obtain⟨y,z,B⟩:=bind_some F;rw[D _ z];unfold vw;exact h _ _ B
def YV {U V:Type} {q:U×V->Out} {c:Option Out} {f:Option (U×V)} {kk:AV->List (Nat×Ob)->Option Out} {k':U->V->Option T} (w:mB q c f) (h:∀y v,mB E (kk (q (y,v)).1 (q (y,v)).2) (k' y v)):mB E (vw c kk) (Bg f k'):=
 LY w λp=>h p.1 p.2
def adz {U:Type} {enc:U->List AV} [gI enc] {o:Option U} {k:U->Option Out} {k':U->Option T} (h:∀x,mB E (k x) (k' x)):mB E (Yl (Tp enc o) λw=>rP enc w k) (Yn o k'):=by intro x q;cases o with
 |none=>simp[Yn] at q
 |some y=>unfold Yl Tp;simp only;rw[jc];exact h _ _ q
def YY {q:Nat} {o:Ob} {l:List (Nat×Ob)} {k:Ob->List (Nat×Ob)->Option Out} {t:Option T} (h:mB E (k o l) t):mB E (nU q ((q,o)::l) k) t:=by
 have:nU q ((q,o)::l) k=k o l:=by unfold nU;simp only[fV,ai]
 rw[this];exact h
def Fp:∀l:List AV,lV (l.map .pv)=some l
 |[]=>rfl
 |a::l=>by simp only[aR,lV,Fp l,cQ]
def I_asLp {xs:List AV} {k:List AV->Option Out} {t:Option T} (h:mB E (k xs) t):mB E (Zd (.lp xs) k) t:=by unfold Zd;exact h
def I_nil {k:Option Out} {t:Option T} (h:mB E k t):mB E (Nj [] k) t:=by unfold Nj;exact h
def I_res {U:Type} {enc:U->AV} [gI enc] {y:U} {k:U->Option Out} {t:Option T} (h:mB E (k y) t):mB E (rP enc (enc y) k) t:=by rw[jc];exact h
end
end Go.AM
set_option synthInstance.maxSize 100000
set_option synthInstance.maxHeartbeats 1000000
namespace Go.AM
universe u v
class Rw {α:Sort u} (a:α) (b:outParam α):Prop where
 e:a=b
class Ho (α:Type) (enc:outParam (α->List AV)):Prop
class En {α:Type} (l:List α) (enc:outParam (α->List AV)):Prop
def tl {α:Type} (enc:α->List AV) (x:α):α:=x
def tg {α:Type} (enc:α->AV) (x:α):α:=x
def tw {α:Type} (enc:α->List AV) (x:List α):List α:=x
class YT (α:Type) (f:outParam (α->AV)):Prop
class Im {T:Type} (E:T->Out) (t:Option T) (c:outParam (Option Out)):Prop where
 p:mB E c t
section
instance (priority:=low) iSelf {α:Sort u} (a:α):Rw a a:=⟨rfl⟩
instance (priority:=low) iEn {α:Type} {enc:α->List AV} [Ho α enc] (l:List α):En l enc:=⟨⟩
instance iEnE {β:Type} {x:List β} {s:Nat} {f:β->List AV}:En (tl (gU s f) x) f:=⟨⟩
section
variable {α:Type} {enc:α->List AV} {l m:List α}
instance [En l enc]:En (l++m) enc:=⟨⟩
instance [En l enc] {i:Nat} {x:α}:En (l.set i x) enc:=⟨⟩
instance [En l enc] {i:Nat}:En (l.take i) enc:=⟨⟩
instance [En l enc] {i:Nat}:En (l.drop i) enc:=⟨⟩
end
instance:Ho Int (bZ .i64):=⟨⟩
instance:Ho (List UInt8) jr:=⟨⟩
instance:Ho Bool qD:=⟨⟩
instance:Ho (List Int) (gU 1 (bZ .i64)):=⟨⟩
instance:Ho (List (List UInt8)) (gU 1 jr):=⟨⟩
variable {α:Type u} {β:Type v}
instance iCons {a q:α} {l w:List α} [Rw a q] [Rw l w]:Rw (a::l) (q::w):=⟨by cases Rw.e (a:=a) (b:=q);cases Rw.e (a:=l) (b:=w);rfl⟩
instance iPair {a q:α} {b w:β} [Rw a q] [Rw b w]:Rw (a,b) (q,w):=⟨by cases Rw.e (a:=a) (b:=q);cases Rw.e (a:=b) (b:=w);rfl⟩
instance iSet {f:α->β} {l:List α} {L:List β} {i q:Nat} {x:α} {y:β} [Rw (l.map f) L] [Rw i q] [Rw (f x) y]:Rw ((l.set i x).map f) (L.set q y):=⟨by cases Rw.e (a:=(l.map f)) (b:=L);cases Rw.e (a:=i) (b:=q);cases Rw.e (a:=(f x)) (b:=y);exact jj ..⟩
instance iApp {f:α->β} {l m:List α} {L M:List β} [Rw (l.map f) L] [Rw (m.map f) M]:Rw ((l++m).map f) (L++M):=⟨by cases Rw.e (a:=(l.map f)) (b:=L);cases Rw.e (a:=(m.map f)) (b:=M);exact bJ ..⟩
instance iMc {f:α->β} {x:α} {y:β} {l:List α} {L:List β} [Rw (f x) y] [Rw (l.map f) L]:Rw ((x::l).map f) (y::L):=⟨by cases Rw.e (a:=(f x)) (b:=y);cases Rw.e (a:=(l.map f)) (b:=L);rfl⟩
instance iMn {f:α->β}:Rw (([]:List α).map f) []:=⟨rfl⟩
instance iTake {f:α->β} {l:List α} {L:List β} {n q:Nat} [Rw (l.map f) L] [Rw n q]:Rw ((l.take n).map f) (L.take q):=⟨by cases Rw.e (a:=(l.map f)) (b:=L);cases Rw.e (a:=n) (b:=q);exact List.map_take ..⟩
instance iDrop {f:α->β} {l:List α} {L:List β} {n q:Nat} [Rw (l.map f) L] [Rw n q]:Rw ((l.drop n).map f) (L.drop q):=⟨by cases Rw.e (a:=(l.map f)) (b:=L);cases Rw.e (a:=n) (b:=q);exact kU ..⟩
instance iRep {f:α->β} {n q:Nat} {x:α} {y:β} [Rw n q] [Rw (f x) y]:Rw ((List.replicate n x).map f) (List.replicate q y):=⟨by cases Rw.e (a:=n) (b:=q);cases Rw.e (a:=(f x)) (b:=y);exact oD ..⟩
instance iELst {U:Type} {s:Nat} {f:U->List AV} {l:List U} {L:List (List AV)} [Rw (l.map f) L]:Rw (gU s f l) [.dH s L]:=⟨by cases Rw.e (a:=(l.map f)) (b:=L);rfl⟩
instance iEInt {k:IntKind} {x y:Int} [Rw x y]:Rw (bZ k x) [.int k y]:=⟨by cases Rw.e (a:=x) (b:=y);rfl⟩
instance {x y:AV} [Rw x y]:Rw (SV.pv x) (.pv y):=⟨by cases Rw.e (a:=x) (b:=y);rfl⟩
instance {k:IntKind} {x y:Int} [Rw x y]:Rw (AV.int k x) (.int k y):=⟨by cases Rw.e (a:=x) (b:=y);rfl⟩
instance {s:Nat} {x y:List (List AV)} [Rw x y]:Rw (AV.dH s x) (.dH s y):=⟨by cases Rw.e (a:=x) (b:=y);rfl⟩
instance {x y:Nat} [Rw x y]:Rw (AV.self x) (.self y):=⟨by cases Rw.e (a:=x) (b:=y);rfl⟩
instance {x y:List AV} [Rw x y]:Rw (AV.agg x) (.agg y):=⟨by cases Rw.e (a:=x) (b:=y);rfl⟩
instance {x y:List AV} [Rw x y]:Rw (AV.lQ x) (.lQ y):=⟨by cases Rw.e (a:=x) (b:=y);rfl⟩
instance {x y:Bool} [Rw x y]:Rw (AV.bool x) (.bool y):=⟨by cases Rw.e (a:=x) (b:=y);rfl⟩
instance {x y:List UInt8} [Rw x y]:Rw (AV.str x) (.str y):=⟨by cases Rw.e (a:=x) (b:=y);rfl⟩
instance {i s a b c d:Nat} [Rw a c] [Rw b d]:Rw (SV.sub i s a b) (.sub i s c d):=⟨by cases Rw.e (a:=a) (b:=c);cases Rw.e (a:=b) (b:=d);rfl⟩
instance {e s:Nat} {x y:List (List AV)} [Rw x y]:Rw (Ob.row e s x) (.row e s y):=⟨by cases Rw.e (a:=x) (b:=y);rfl⟩
instance {e:Nat} {x y:List SV} [Rw x y]:Rw (Ob.box e x) (.box e y):=⟨by cases Rw.e (a:=x) (b:=y);rfl⟩
instance {U:Type} {Q:U->AV} {x:U} {a:AV} [Rw (Q x) a]:Rw (EN Q x) (a,[]):=⟨by cases Rw.e (a:=Q x) (b:=a);rfl⟩
instance iLen {U:Type} {l:List U} {enc:U->List AV} {L:List (List AV)} [En l enc] [Rw (l.map enc) L]:Rw l.length L.length:=⟨by cases Rw.e (a:=(l.map enc)) (b:=L);exact(aU ..).symm⟩
instance {x y:Nat} [Rw x y]:Rw (x:Int) (y:Int):=⟨by cases Rw.e (a:=x) (b:=y);rfl⟩
instance {x y:Int} [Rw x y]:Rw (toNat x) (toNat y):=⟨by cases Rw.e (a:=x) (b:=y);rfl⟩
instance {k:IntKind} {x y:Int} [Rw x y]:Rw (wrap k x) (wrap k y):=⟨by cases Rw.e (a:=x) (b:=y);rfl⟩
instance [HAdd α α α] {a b q w:α} [Rw a q] [Rw b w]:Rw (a+b) (q+w):=⟨by cases Rw.e (a:=a) (b:=q);cases Rw.e (a:=b) (b:=w);rfl⟩
instance [HSub α α α] {a b q w:α} [Rw a q] [Rw b w]:Rw (a-b) (q-w):=⟨by cases Rw.e (a:=a) (b:=q);cases Rw.e (a:=b) (b:=w);rfl⟩
instance [HMul α α α] {a b q w:α} [Rw a q] [Rw b w]:Rw (a *b) (q *w):=⟨by cases Rw.e (a:=a) (b:=q);cases Rw.e (a:=b) (b:=w);rfl⟩
instance [LT α] {a b q w:α} [Rw a q] [Rw b w]:Rw (a<b) (q<w):=⟨by cases Rw.e (a:=a) (b:=q);cases Rw.e (a:=b) (b:=w);rfl⟩
instance [LE α] {a b q w:α} [Rw a q] [Rw b w]:Rw (a<=b) (q<=w):=⟨by cases Rw.e (a:=a) (b:=q);cases Rw.e (a:=b) (b:=w);rfl⟩
instance [LT α] {a b q w:α} [Rw a q] [Rw b w]:Rw (a>b) (q>w):=⟨by cases Rw.e (a:=a) (b:=q);cases Rw.e (a:=b) (b:=w);rfl⟩
instance [LE α] {a b q w:α} [Rw a q] [Rw b w]:Rw (a>=b) (q>=w):=⟨by cases Rw.e (a:=a) (b:=q);cases Rw.e (a:=b) (b:=w);rfl⟩
instance {a b q w:α} [Rw a q] [Rw b w]:Rw (a=b) (q=w):=⟨by cases Rw.e (a:=a) (b:=q);cases Rw.e (a:=b) (b:=w);rfl⟩
instance {p q w z:Prop} [Rw p w] [Rw q z]:Rw (p/\q) (w/\z):=⟨by cases Rw.e (a:=p) (b:=w);cases Rw.e (a:=q) (b:=z);rfl⟩
instance {p q:Prop} [Rw p q] [i:Decidable p] [j:Decidable q]:Rw (decide p) (decide q):=⟨by
 cases Rw.e (a:=p) (b:=q);congr⟩
instance [BEq α] {a b q w:α} [Rw a q] [Rw b w]:Rw (a==b) (q==w):=⟨by cases Rw.e (a:=a) (b:=q);cases Rw.e (a:=b) (b:=w);rfl⟩
instance [BEq α] {a b q w:α} [Rw a q] [Rw b w]:Rw (a !=b) (q !=w):=⟨by cases Rw.e (a:=a) (b:=q);cases Rw.e (a:=b) (b:=w);rfl⟩
instance {a q:Bool} [Rw a q]:Rw (!a) (!q):=⟨by cases Rw.e (a:=a) (b:=q);rfl⟩
instance {a b q w:Bool} [Rw a q] [Rw b w]:Rw (a&&b) (q&&w):=⟨by cases Rw.e (a:=a) (b:=q);cases Rw.e (a:=b) (b:=w);rfl⟩
instance iRun {P:Program} {H:Nat->Hint} {eY:dW} {f:Nat} {a q:List SV} {l w:List (Nat×Ob)} [Rw a q] [Rw l w]:Rw (run P H eY f a l) (run P H eY f q w):=⟨by cases Rw.e (a:=a) (b:=q);cases Rw.e (a:=l) (b:=w);rfl⟩
instance iHead {P:Program} {C:lX} {H:Nat->Hint} {eY:dW} {f key:Nat} {z:List Nat} {a q:List (Nat×SV)} {l w:List (Nat×Ob)} [Rw a q] [Rw l w]:Rw (pG P C H eY f key z a l) (pG P C H eY f key z q w):=⟨by cases Rw.e (a:=a) (b:=q);cases Rw.e (a:=l) (b:=w);rfl⟩
end
section
variable {T:Type} {E:T->Out}
instance mSome {x:T} {y:Out} [Rw (E x) y]:Im E (some x) (some y):=⟨L0 (Rw.e (a:=E x)).symm⟩
instance mDeref {U:Type} {enc:U->List AV} [Ho U enc] [gI enc] {o:Option U} {k:U->Option Out} {k':U->Option T} [∀x,Im E (k' x) (k x)]:Im E (Yn o k') (Yl (Tp enc o) λq=>rP enc q k):=⟨adz λx=>Im.p (t:=k' x)⟩
instance mDec {c c':Option Out} [Rw c c']:Im E (dec E c) c':=⟨by rw[<-Rw.e (a:=c) (b:=c')];exact Iz⟩
instance mCond {c c':Bool} {a b:Option Out} {q w:Option T} [Rw c' c] [Im E q a] [Im E w b]:Im E (bif c' then q else w) (bif c then a else b):=⟨zf (Rw.e (a:=c')).symm (Im.p (t:=q)) (Im.p (t:=w))⟩
instance mCheck {p q:Prop} [Decidable q] [Rw q p] [Decidable p] {a:Option Out} {w:Option T} [Im E w a]:Im E (check q w) (check p a):=⟨fS (λh=>by rw[<-Rw.e (a:=q) (b:=p)];exact h) (Im.p (t:=w))⟩
instance mGetK {α:Type} {enc:α->List AV} {l:List α} [En l enc] [gI enc] {L:List (List AV)} [Rw (l.map enc) L] {i q:Int} [Rw q i] {k:α->Option Out} {k':α->Option T} [h:∀x,Im E (k' (tl enc x)) (k x)]:Im E (aV l q k') (aV L i λc=>rP enc c k):=⟨Vf (Rw.e (a:=l.map enc)).symm (Rw.e (a:=q)).symm λx=>(h x).p⟩
instance mGetN {α:Type} {enc:α->List AV} {l:List α} [En l enc] [gI enc] {L:List (List AV)} [Rw (l.map enc) L] {i q:Nat} [Rw q i] {k:α->Option Out} {k':α->Option T} [h:∀x,Im E (k' (tl enc x)) (k x)]:Im E (dY l q k') (dY L i λc=>rP enc c k):=⟨adA (Rw.e (a:=l.map enc)).symm (Rw.e (a:=q)).symm λx=>(h x).p⟩
instance mGetb {l:List UInt8} {i q:Int} [Rw q i] {k:UInt8->Option Out} {k':UInt8->Option T} [∀x,Im E (k' x) (k x)]:Im E (aV l q k') (aV l i k):=⟨by rw[Rw.e (a:=q) (b:=i)];exact I_getb λx=>Im.p (t:=k' x)⟩
instance mCall {U:Type} {enc:U->AV} [gI enc] {c c':Option Out} [Rw c' c] {k:U->Option Out} {k':U->Option T} [h:∀y,Im E (k' (tg enc y)) (k y)]:Im E (Option.bind (dec (EN enc) c') k') (wI c λr=>rP enc r k):=⟨by rw[Rw.e (a:=c') (b:=c)];exact Ik λy=>(h y).p⟩
end
section
variable {α β:Type}
def pA (enc:α->List AV):α->AV:=λx=> .agg (enc x)
def pL (n:Nat) (enc:α->List AV):List α->AV:=λx=> .dH n (x.map enc)
def pP (f:α->AV) (g:β->AV):α×β->AV:=λx=> .lQ [f x.1,g x.2]
def pW (e n:Nat) (enc:α->List AV):List α->AV:=λx=> .lQ [.lQ [.self e, .dH n (x.map enc)]]
def pM (f:α->AV) (g:β->AV):List (α×β)->AV:=λx=> .mp (dN ⟨α,f⟩ ⟨β,g⟩ x).1 (dN ⟨α,f⟩ ⟨β,g⟩ x).2
def pF (n:Nat) (enc:α->List AV):List α->AV:=λx=> .fn n [.ref [.dH 2 (x.map enc)]]
def pU:Unit->AV:=λ_=> .lQ []
variable {f:α->AV} {g:β->AV} {enc:α->List AV} {n e:Nat}
instance {k:IntKind}:gI (AV.int k):=⟨λa b h=>by injection h⟩
instance:gI AV.bool:=⟨λa b h=>by injection h⟩
instance:gI AV.str:=⟨λa b h=>by injection h⟩
instance:gI AV.self:=⟨λa b h=>by injection h⟩
instance:gI pU:=⟨λ_ _ _=>rfl⟩
instance [gI enc]:gI (pA enc):=⟨λa b h=>by injection h with h;exact gI.inj _ _ h⟩
instance [gI enc]:gI (pL n enc):=⟨λa b h=>by injection h with _ h;exact map_inj gI.inj _ _ h⟩
instance [gI f] [gI g]:gI (pP f g):=⟨λa b h=>by
 simp only[pP,AV.lQ.injEq,dM,fD] at h
 exact Prod.ext (gI.inj _ _ h.1) (gI.inj _ _ h.2)⟩
instance [gI enc]:gI (pW e n enc):=⟨λa b h=>by
 simp only[pW,AV.lQ.injEq,dM,AV.dH.injEq,gB,fD] at h
 exact map_inj gI.inj _ _ h⟩
instance [gI enc]:gI (pF n enc):=⟨λa b h=>by
 simp only[pF,AV.fn.injEq,AV.ref.injEq,dM,AV.dH.injEq,gB,fD] at h
 exact map_inj gI.inj _ _ h⟩
instance [i:gI f] [j:gI g]:gI (pM f g):=⟨λa b h=>by injection h with q w;exact @yg ⟨α,f⟩ ⟨β,g⟩ i j _ _ q w⟩
instance {l:List α} {L:List (List AV)} [Rw (l.map enc) L]:Rw (pL n enc l) (.dH n L):=⟨by cases Rw.e (a:=l.map enc) (b:=L);rfl⟩
instance {x:α} {y:β} {a b:AV} [Rw (f x) a] [Rw (g y) b]:Rw (pP f g (x,y)) (.lQ [a,b]):=⟨by cases Rw.e (a:=f x) (b:=a);cases Rw.e (a:=g y) (b:=b);rfl⟩
instance {x:List α}:En (tg (pL n enc) x) enc:=⟨⟩
instance {x:List α×β}:En (tg (pP (pL n enc) g) x).1 enc:=⟨⟩
instance {x:β×List α}:En (tg (pP g (pL n enc)) x).2 enc:=⟨⟩
end
structure De0 where
 e:List (Nat×Ob)
 r:List (Nat×Ob)->Option Out->Option Out
 ok:∀k,r e k=k
structure De (T:Type) where
 e:T->List (Nat×Ob)
 r:List (Nat×Ob)->(T->Option Out)->Option Out
 ok:∀x k,r (e x) k=k x
structure It (α:Type) where
 e:α->Ob
 r:Ob->(α->Option Out)->Option Out
 ok:∀x k,r (e x) k=k x
noncomputable section
def unc (q:Nat) (o:Ob) (l:List (Nat×Ob)) (k:Ob->List (Nat×Ob)->Option Out):nU q ((q,o)::l) k=k o l:=by unfold nU;simp
def smk (o:Ob) (k:Option Out):DW o o k=k:=by unfold DW;simp
def dZ:De0:=⟨[],Nj,λk=>by unfold Nj;rfl⟩
def dS (q:Nat) (w:Ob) (z:De0):De0:=⟨(q,w)::z.e,λl k=>nU q l λo l=>DW o w (z.r l k),λk=>by rw[unc,smk,z.ok]⟩
def iR {α:Type} (e q:Nat) (enc:α->List AV) [gI enc]:It (List α):=⟨λxs=> .row e q (xs.map enc),λo k=>PA e q o λc=>rP (List.map enc) c k,λx k=>by unfold PA;simp[jc]⟩
def iM (w q:Nat) (K V:rU) [gI K.enc] [gI V.enc]:It (List (K.T×V.T)):=⟨λl=> .mp w q (dN K V l).1 (dN K V l).2,λo k=>Pz w q o λc=>rP (dN K V) c k,λx k=>by unfold Pz;simp[jc]⟩
def iB {α:Type} (t:TypeId) (enc:α->List AV) [gI enc]:It α:=⟨λx=> .box t (List.map .pv (enc x)),λo k=>Vj t o λc=>rP enc c k,λx k=>by unfold Vj;simp[jc,Fp]⟩
section
variable {α T:Type}
def dT (q:Nat) (w:Ob) (d:De T):De T:=⟨λx=>(q,w)::d.e x,λl k=>nU q l λo l=>DW o w (d.r l k),λx k=>by rw[unc,smk,d.ok]⟩
def dI (q:Nat) (i:It α) (d:De T):De (α×T):=⟨λx=>(q,i.e x.1)::d.e x.2,λl k=>nU q l λo l=>i.r o λx=>d.r l λy=>k (x,y),λx k=>by rw[unc,i.ok,d.ok]⟩
def dJ (q:Nat) (i:It α) (z:De0):De α:=⟨λx=>(q,i.e x)::z.e,λl k=>nU q l λo l=>i.r o λx=>z.r l (k x),λx k=>by rw[unc,i.ok,z.ok]⟩
variable {U:Type}
def eD (Q:U->AV) (d:De T):U×T->Out:=λx=>(Q x.1,d.e x.2)
def eZ (Q:U->AV) (z:De0):U->Out:=λx=>(Q x,z.e)
def eR {V:Type} (Q:U->AV) (q e w:Nat) (enc:V->List AV):U×List V->Out:=λx=>(Q x.1,[(q, .row e w (x.2.map enc))])
instance {V:Type} {Q:U->AV} {q e sz:Nat} {enc:V->List AV} {x:U} {l:List V} {a:AV} {L:List (List AV)} [Rw (Q x) a] [Rw (l.map enc) L]:Rw (eR Q q e sz enc (x,l)) (a,[(q, .row e sz L)]):=⟨by cases Rw.e (a:=Q x) (b:=a);cases Rw.e (a:=l.map enc) (b:=L);rfl⟩
class RwI {V:Type} (i:It V) (x:V) (o:outParam Ob):Prop where
 e:i.e x=o
class RwD {V:Type} (d:De V) (x:V) (l:outParam (List (Nat×Ob))):Prop where
 e:d.e x=l
instance (priority:=low) {i:It α} {x:α}:RwI i x (i.e x):=⟨rfl⟩
instance {V:Type} {e sz:Nat} {enc:V->List AV} [gI enc] {l:List V} {L:List (List AV)} [j:Rw (l.map enc) L]:RwI (iR e sz enc) l (.row e sz L):=⟨by rw[<-j.e];rfl⟩
instance {q:Nat} {z:Ob} {d:De T} {w:T} {l:List (Nat×Ob)} [j:RwD d w l]:RwD (dT q z d) w ((q,z)::l):=⟨by rw[<-j.e];rfl⟩
instance {q:Nat} {i:It α} {d:De T} {x:α} {w:T} {o:Ob} {l:List (Nat×Ob)} [k:RwI i x o] [j:RwD d w l]:RwD (dI q i d) (x,w) ((q,o)::l):=⟨by rw[<-j.e,<-k.e];rfl⟩
instance {q:Nat} {i:It α} {z:De0} {x:α} {o:Ob} [k:RwI i x o]:RwD (dJ q i z) x ((q,o)::z.e):=⟨by rw[<-k.e];rfl⟩
instance {Q:U->AV} {d:De T} {x:U} {w:T} {a:AV} {l:List (Nat×Ob)} [i:Rw (Q x) a] [j:RwD d w l]:Rw (eD Q d (x,w)) (a,l):=⟨by rw[<-i.e,<-j.e];rfl⟩
def De.inj (d:De T) {a b:T} (h:d.e a=d.e b):a=b:=by
 have q:=d.ok a λx=>open Classical in if x=a then some (.DF,[]) else none
 rw[h,d.ok] at q;simp at q;exact q.symm
instance {Q:U->AV} [gI Q] {d:De T}:gI (eD Q d):=⟨λa b h=>Prod.ext (gI.inj _ _ (aJ Prod.fst h)) (d.inj (aJ Prod.snd h))⟩
instance {Q:U->AV} [gI Q] {z:De0}:gI (eZ Q z):=⟨λa b h=>gI.inj _ _ (aJ Prod.fst h)⟩
instance {V:Type} {Q:U->AV} [gI Q] {q e sz:Nat} {enc:V->List AV} [gI enc]:gI (eR Q q e sz enc):=⟨λa b h=>by
 simp only[eR,bz,dM,Ob.row.injEq,gB,fD] at h
 exact Prod.ext (gI.inj _ _ h.1) (map_inj gI.inj _ _ h.2)⟩
end
end
section
variable {T U W:Type} {E:T->Out} {Q:U->AV} [gI Q] {c c':Option Out}
def I_D {d:De W} {k:U->W->Option Out} {k':U×W->Option T} (h:∀y w,mB E (k y w) (k' (y,w))):mB E (vw c λr l=>d.r l λw=>rP Q r λy=>k y w) (Option.bind (dec (eD Q d) c) k'):=
 LY (jd _ _) λy=>by simp only[eD,d.ok,jc];exact h _ _
instance mCallZ {z:De0} [Rw c' c] {k:U->Option Out} {k':U->Option T} [h:∀y,Im E (k' (tg Q y)) (k y)]:Im E (Option.bind (dec (eZ Q z) c') k') (vw c λr l=>z.r l (rP Q r k)):=⟨by
 rw[Rw.e (a:=c') (b:=c)];exact LY (jd _ _) λy=>by simp only[eZ,z.ok,jc];exact(h y).p⟩
instance mCall2 {d:De W} [Rw c' c] {k:U->W->Option Out} {k':U->W->Option T} [h:∀y w,Im E (k' (tg Q y) w) (k y w)]:Im E (Bg (dec (eD Q d) c') k') (vw c λr l=>d.r l λw=>rP Q r λy=>k y w):=⟨by
 rw[Rw.e (a:=c') (b:=c)];exact I_D λy w=>(h y w).p⟩
instance mCall3 {q z:Type} {d:De (q×z)} [Rw c' c] {k:U->q->z->Option Out} {k':U->q->z->Option T} [h:∀y B D,Im E (k' (tg Q y) B D) (k y B D)]:Im E (Bh (dec (eD Q d) c') k') (vw c λr l=>d.r l λw=>rP Q r λy=>k y w.1 w.2):=⟨by
 rw[Rw.e (a:=c') (b:=c)];exact I_D λy w=>(h y w.1 w.2).p⟩
instance mCall4 {q z B:Type} {d:De (q×z×B)} [Rw c' c] {k:U->q->z->B->Option Out} {k':U->q->z->B->Option T} [h:∀y D F G,Im E (k' (tg Q y) D F G) (k y D F G)]:Im E (tF (dec (eD Q d) c') k') (vw c λr l=>d.r l λw=>rP Q r λy=>k y w.1 w.2.1 w.2.2):=⟨by
 rw[Rw.e (a:=c') (b:=c)];exact I_D λy w=>(h y w.1 w.2.1 w.2.2).p⟩
instance mCall5 {q z B D:Type} {d:De (q×z×B×D)} [Rw c' c] {k:U->q->z->B->D->Option Out} {k':U->q->z->B->D->Option T} [h:∀y F G H I,Im E (k' (tg Q y) F G H I) (k y F G H I)]:Im E (Ft (dec (eD Q d) c') k') (vw c λr l=>d.r l λw=>rP Q r λy=>k y w.1 w.2.1 w.2.2.1 w.2.2.2):=⟨by
 rw[Rw.e (a:=c') (b:=c)];exact I_D λy w=>(h y w.1 w.2.1 w.2.2.1 w.2.2.2).p⟩
instance mCall6 {q z B D F:Type} {d:De (q×z×B×D×F)} [Rw c' c] {k:U->q->z->B->D->F->Option Out} {k':U->q->z->B->D->F->Option T} [h:∀y G H I K L,Im E (k' (tg Q y) G H I K L) (k y G H I K L)]:Im E (PB (dec (eD Q d) c') k') (vw c λr l=>d.r l λw=>rP Q r λy=>k y w.1 w.2.1 w.2.2.1 w.2.2.2.1 w.2.2.2.2):=⟨by
 rw[Rw.e (a:=c') (b:=c)];exact I_D λy w=>(h y w.1 w.2.1 w.2.2.1 w.2.2.2.1 w.2.2.2.2).p⟩
instance mCallR {V:Type} {z e sz:Nat} {q:V->List AV} [gI q] [Rw c' c] {k:U->List V->Option Out} {k':U->List V->Option T} [h:∀y w,Im E (k' (tg Q y) (tw q w)) (k y w)]:Im E (Bg (dec (eR Q z e sz q) c') k') (Dc c z e sz λr c2=>rP Q r λy=>rP (List.map q) c2 λxs=>k y xs):=⟨by
 rw[Rw.e (a:=c') (b:=c)];exact ady (jd _ _) λy w=>(h y w).p⟩
instance:YT Int (AV.int .i64):=⟨⟩
instance:YT Bool AV.bool:=⟨⟩
instance:YT (List UInt8) AV.str:=⟨⟩
end
section
variable {T:Type} {E:T->Out} {κ ν:Type} {f:κ->AV} {g:ν->AV} {l:List (κ×ν)} {key:κ} {a:AV}
instance mLook [YT κ f] [YT ν g] [Gh ⟨κ,f⟩] [i:gI g] [Rw (f key) a] {k:ν->Option Out} {k':ν->Option T} {z:Option Out} {q:Option T} [h:∀y,Im E (k' (tg g y)) (k y)] [Im E q z]:Im E (tH l key k' q) (Ll (Ul a (dN ⟨κ,f⟩ ⟨ν,g⟩ l).1 (dN ⟨κ,f⟩ ⟨ν,g⟩ l).2) (λv=>rP g v k) z):=⟨by
 rw[<-Rw.e (a:=f key) (b:=a)];exact @I_look T E ⟨κ,f⟩ ⟨ν,g⟩ _ i l key k k' z q (λy=>(h y).p) Im.p⟩
instance mPut [YT κ f] [YT ν g] [Gh ⟨κ,f⟩] [i:gI g] [Rw (f key) a] [j:gI f] {v:ν} {b:AV} [Rw (g v) b] {k:List (κ×ν)->Option Out} {k':List (κ×ν)->Option T} [h:∀m,Im E (k' m) (k m)]:Im E (tA (wA l key v) k') (UH (B8 a b (dN ⟨κ,f⟩ ⟨ν,g⟩ l).1 (dN ⟨κ,f⟩ ⟨ν,g⟩ l).2) λp=>rP (dN ⟨κ,f⟩ ⟨ν,g⟩) p k):=⟨by
 rw[<-Rw.e (a:=f key) (b:=a)];exact @I_put T E ⟨κ,f⟩ ⟨ν,g⟩ _ j i l key b v k k' (Rw.e (a:=g v)).symm λm=>(h m).p⟩
instance [YT κ f] [YT ν g]:Rw l.length (dN ⟨κ,f⟩ ⟨ν,g⟩ l).1.length:=⟨by simp[dN]⟩
end
