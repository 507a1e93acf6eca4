/- THE ABSTRACT MACHINE. -/
import Derived.Test.YthppjmoncapdfaaGreatDoorAmT
set_option linter.all false
open Go.IntKind (wrap)
namespace Go.AM
class e7 {T α:Type} (enc:T->α):Prop where
 inj:∀a b,enc a=enc b->a=b
def bU (k:IntKind) (a:Int):List AV:=[.int k a]
def iP (s:List UInt8):List AV:=[.str s]
def mL (b:Bool):List AV:=[.bool b]
def gI {T:Type} (q:Nat) (enc:T->List AV) (l:List T):List AV:=[.c4 q (l.map enc)]
def map_inj {T α:Type} {enc:T->α} (h:∀a b,enc a=enc b->a=b):∀(l m:List T),l.map enc=m.map enc->l=m:=by intro l;induction l with
 |nil=>intro m q;cases m with
  |nil=>rfl
  |cons x m=>simp at q
 |cons x l w=>intro m q;cases m with
  |nil=>simp at q
  |cons y m=>simp only[aK,cU] at q;rw[h _ _ q.1,w _ q.2]
instance {k:IntKind}:e7 (bU k):=⟨λa b h=>by simpa[bU] using h⟩
instance:e7 iP:=⟨λa b h=>by simpa[iP] using h⟩
instance:e7 mL:=⟨λa b h=>by simpa[mL] using h⟩
instance {T α:Type} {enc:T->α} [e7 enc]:e7 (List.map enc):=⟨map_inj e7.inj⟩
instance {T:Type} {sz:Nat} {enc:T->List AV} [e7 enc]:e7 (gI sz enc):=⟨λa b h=>by
 simp only[gI,cU,AV.c4.injEq,dL,fD] at h
 exact map_inj e7.inj _ _ h⟩
section
variable {R:Type}
def gT {α T:Type} {enc:T->α} [e7 enc] (d:T) (k:T->Option R):oO enc (enc d) k=k d:=Ri e7.inj d k
def GJ (r:AV) (k:AV->Option R):r9 (some (r,[])) k=k r:=Mq rfl k
def GM (q e w:Nat) (r:AV) (xs:List (List AV)) (k:AV->List (List AV)->Option R):Bx (some (r,[(q, .row e w xs)])) q e w k=k r xs:=Mr rfl k
def Lu {α:Type} [Inhabited α] {l:List α} {i:Nat} (h:i<l.length) (k:α->Option R):fm l i k=k (l.getD i default):=
 iA (by rw[aW h,bQ,aW h];rfl) k
end
def Ns (n:Int):wrap .i64 n=if 9223372036854775808<=n % 18446744073709551616 then n % 18446744073709551616-18446744073709551616 else n % 18446744073709551616:=by show(if(true&&decide (n % 18446744073709551616>=9223372036854775808))=true then n % 18446744073709551616-18446744073709551616 else n % 18446744073709551616)=_;simp only[sX,ni,ge_iff_le]
def jM {n:Int} (q: -9223372036854775808<=n) (w:n<=9223372036854775807):wrap .i64 n=n:=by rw[Ns];split<;>omega
def K5 (n:Int):wrap .u64 n=n % 18446744073709551616:=by show(if(false&&decide (n % 18446744073709551616>=9223372036854775808))=true then n % 18446744073709551616-18446744073709551616 else n % 18446744073709551616)=_;simp
def CS {n:Int} (q:0<=n) (w:n<=18446744073709551615):wrap .u64 n=n:=by rw[K5];omega
def cQ {i:Nat} (h:i<4611686018427387904):wrap .i64 ((i:Int)+1)=((i+1:Nat):Int):=by rw[jM af af];omega
def cond_pos {α:Type} {b:Bool} (h:b=true) (x y:α):cond b x y=x:=by subst h;rfl
def cond_neg {α:Type} {b:Bool} (h:b=false) (x y:α):cond b x y=y:=by subst h;rfl
end Go.AM
namespace Go.AM
def Mn (a:List UInt8):Op.bytesLess a a=false:=by induction a with
 |nil=>rfl
 |cons x a q=>simp[Op.bytesLess,q]
def Br:∀(a b:List UInt8),Op.bytesLess a b=false->a≠b->Op.bytesLess b a=true:=by intro a;induction a with
 |nil=>intro b h q;cases b with
  |nil=>exact absurd rfl q
  |cons y b=>simp[Op.bytesLess] at h
 |cons x a B=>intro b h q;cases b with
  |nil=>rfl
  |cons y b=>
   simp only[Op.bytesLess,jR,bM,Bool.and_eq_false_iff] at h;simp only[Op.bytesLess,ew,ni,aF,mV];by_cases e:x=y
   .subst e;refine .inr ⟨rfl,B b (h.2.resolve_left ah) λe=>q (by rw[e])⟩
   .refine .inl ?_;have z:=h.1;simp only[xN] at z⊢
    have:x.toNat≠y.toNat:=λw=>e (UInt8.toNat.inj w)
    omega
def GF:∀(a b c:List UInt8),Op.bytesLess a b=true->Op.bytesLess b c=true->Op.bytesLess a c=true:=by intro a;induction a with
 |nil=>intro b c w q;cases c with
  |nil=>simp[Op.bytesLess] at q
  |cons z c=>rfl
 |cons x a B=>intro b c w q;cases b with
  |nil=>simp[Op.bytesLess] at w
  |cons y b=>cases c with
   |nil=>simp[Op.bytesLess] at q
   |cons z c=>
    simp only[Op.bytesLess,ew,ni,aF,mV,xN] at w q⊢;rcases w with w|⟨rfl,w⟩
    .rcases q with q|⟨rfl,q⟩
     .exact .inl af
     .exact .inl w
    .rcases q with q|⟨rfl,q⟩
     .exact .inl q
     .exact .inr ⟨rfl,B b c w q⟩
def r7 {a b:List UInt8} (h:Op.bytesLess a b=true):Op.bytesLess b a=false:=by cases e:Op.bytesLess b a with
 |false=>rfl
 |true=>have:=GF _ _ _ h e;rw[Mn] at this;cases this
section
variable {α:Type} (lt:α->α->Bool)
def w8 (x:α):List α->List α
 |[]=>[x]
 |y::l=>if lt x y=true then x::y::l else y::w8 x l
def oc (l:List α):Prop:=l.Pairwise λa b=>lt b a=false
theorem OZ {x y:α}:∀{l:List α},y∈w8 lt x l↔y=x\/y∈l:=by intro l;induction l with
 |nil=>simp[w8]
 |cons z l q=>
  simp only[w8];split
  .simp
  .simp only[aD,q];constructor
   .rintro (h|h|h)<;>simp[h]
   .rintro (h|h|h)<;>simp[h]
theorem HG (q:∀a b,lt a b=true->lt b a=false) (up:∀x y z,lt x y=true->lt z y=false->lt x z=true) {x:α}:∀{l:List α},oc lt l->oc lt (w8 lt x l):=by intro l;induction l with
 |nil=>intro _;simp[w8,oc]
 |cons y l D=>
  intro B;simp only[oc,c9] at B;simp only[w8];split
  .rename_i h;simp only[oc,c9,aD];refine⟨λz w=> ?_,B⟩;rcases w with rfl|w
   .exact q _ _ h
   .exact q _ _ (up _ _ _ h (B.1 z w))
  .rename_i h;simp only[oc,c9];refine⟨λz w=> ?_,D B.2⟩;rcases(OZ lt).1 w with rfl|w
   .simpa using h
   .exact B.1 z w
def jB (l:List α):List α:=l.foldl (λout x=>w8 lt x out) []
end
end Go.AM
namespace Go.AM
abbrev Out:Type:=AV×List (Nat×Ob)
noncomputable def dec {T:Type} (E:T->Out) (c:Option Out):Option T:=
 match c with
 |some r=>open Classical in if h:∃x,E x=r then some h.choose else none
 |none=>none
def kE {T:Type} (E:T->Out) (c:Option Out) (t:Option T):Prop:=∀x,t=some x->c=some (E x)
def jD {T:Type} (E:T->Out) (c:Option Out):kE E c (dec E c):=by intro x q;cases c with
 |none=>simp[dec] at q
 |some r=>
  simp only[dec] at q;split at q
  .rename_i h;have:=h.choose_spec;simp only[aB] at q;rw[<-q,this]
  .simp at q
def gD {T:Type} {E:T->Out} [e7 E] {c:Option Out} {x:T} (h:c=some (E x)):dec E c=some x:=by
 subst h;have q:∃y,E y=E x:=⟨x,rfl⟩
 simp only[dec,iX q];rw[e7.inj _ _ q.choose_spec]
section
variable {T:Type} {E:T->Out}
def Eb {c:Out} {x:T} (h:c=E x):kE E (some c) (some x):=by intro y q;simp only[aB] at q;subst q;rw[h]
def Be {c c':Bool} {a b:Option Out} {q w:Option T} (D:c=c') (z:kE E a q) (B:kE E b w):kE E (bif c then a else b) (bif c' then q else w):=by
 subst D;cases c
 .exact B
 .exact z
def GU {R:Type} {p:Prop} [Decidable p] {a:Option R} {x:R} (h:check p a=some x):p/\a=some x:=by
 unfold check at h;split at h
 .exact⟨by assumption,h⟩
 .simp at h
def Jy {R:Type} {p:Prop} [Decidable p] {a:Option R} (h:p):check p a=a:=by unfold check;rw[ak h]
def fk {p q:Prop} [Decidable p] [Decidable q] {a:Option Out} {w:Option T} (z:q->p) (h:kE E a w):kE E (check p a) (check q w):=by intro x B;have:=GU B;rw[Jy (z this.1)];exact h _ this.2
def NK {α β:Type} {enc:α->β} [e7 enc] {L:List β} {l:List α} {i:Int} {k:α->Option Out} {k':α->Option T} (z:L=l.map enc) (h:∀x,kE E (k x) (k' x)):
  kE E (bF L i λc=>oO enc c k) (bF l i k'):=by
 subst z;intro x q;unfold bF at q⊢;split at q
 .rename_i w;rw[dz];cases e:l[i.toNat]? with
  |none=>rw[e] at q;simp at q
  |some y=>rw[e] at q;simp only[bW,ak w];rw[gT];exact h _ _ q
 .simp at q
def I9 {α β:Type} {enc:α->β} [e7 enc] {L:List β} {l:List α} {i:Nat} {k:α->Option Out} {k':α->Option T} (w:L=l.map enc) (h:∀x,kE E (k x) (k' x)):
  kE E (fm L i λc=>oO enc c k) (fm l i k'):=by
 subst w;intro x q;unfold fm at q⊢;rw[dz];cases e:l[i]? with
 |none=>rw[e] at q;simp at q
 |some y=>rw[e] at q;simp only[bW];rw[gT];exact h _ _ q
def K8 {α β:Type} {enc:α->β} [e7 enc] {L:List β} {l:List α} {i q:Int} {k:α->Option Out} {k':α->Option T} (z:L=l.map enc) (w:i=q) (h:∀x,kE E (k x) (k' x)):
  kE E (bF L i λc=>oO enc c k) (bF l q k'):=by
 subst w;exact NK z h
def Rc {α β:Type} {enc:α->β} [e7 enc] {L:List β} {l:List α} {i q:Nat} {k:α->Option Out} {k':α->Option T} (z:L=l.map enc) (w:i=q) (h:∀x,kE E (k x) (k' x)):
  kE E (fm L i λc=>oO enc c k) (fm l q k'):=by
 subst w;exact I9 z h
def I_getb {α:Type} {l:List α} {i:Int} {k:α->Option Out} {k':α->Option T} (h:∀x,kE E (k x) (k' x)):kE E (bF l i k) (bF l i k'):=by
 intro x q;unfold bF at q⊢;split at q
 .rename_i w;rw[ak w];cases e:l[i.toNat]? with
  |none=>rw[e] at q;simp at q
  |some y=>rw[e] at q;exact h _ _ q
 .simp at q
def bind_some {α β:Type} {f:Option α} {k:α->Option β} {x:β} (h:Option.bind f k=some x):∃y,f=some y/\k y=some x:=by cases f with
 |none=>simp at h
 |some y=>exact⟨y,rfl,h⟩
def Ts {U:Type} {enc:U->AV} [e7 enc] {q:U->Out} {c:Option Out} {f:Option U} {k:U->Option Out} {k':U->Option T} (D:kE q c f) (h:∀y,kE E (k y) (k' y)) (B:∀y,q y=(enc y,[]):=by intro _;rfl):
  kE E (r9 c λr=>oO enc r k) (Option.bind f k'):=by
 intro x F;obtain⟨y,w,z⟩:=bind_some F;rw[D _ w,B,GJ,gT];exact h _ _ z
def GB {U V R:Type} (f:Option (U×V)) (k:U->V->Option R):Option R:=f.bind λp=>k p.1 p.2
def GC {U V W R:Type} (f:Option (U×V×W)) (k:U->V->W->Option R):Option R:=f.bind λp=>k p.1 p.2.1 p.2.2
def Nc {U R:Type} (o:Option U) (k:U->Option R):Option R:=match o with
 |some x=>k x
 |none=>none
def um {q w z B R:Type} (f:Option (q×w×z×B)) (k:q->w->z->B->Option R):Option R:=f.bind λp=>k p.1 p.2.1 p.2.2.1 p.2.2.2
def zT {q w z B D R:Type} (f:Option (q×w×z×B×D)) (k:q->w->z->B->D->Option R):Option R:=f.bind λp=>k p.1 p.2.1 p.2.2.1 p.2.2.2.1 p.2.2.2.2
def GD {q w z B D F R:Type} (f:Option (q×w×z×B×D×F)) (k:q->w->z->B->D->F->Option R):Option R:=f.bind λp=>k p.1 p.2.1 p.2.2.1 p.2.2.2.1 p.2.2.2.2.1 p.2.2.2.2.2
def Bo {U V R:Type} (a:U) (b:V) (k:U->V->Option R):GB (some (a,b)) k=k a b:=rfl
def Bp {U V W R:Type} (a:U) (b:V) (c:W) (k:U->V->W->Option R):GC (some (a,b,c)) k=k a b c:=rfl
end
section
variable {α R:Type}
def iL {l:List α} {i:Nat} {x:α} {xs:List α} (h:l.drop i=x::xs):i<l.length:=by have:=aC List.length h;simp only[List.length_drop,aT] at this;omega
def oz {l:List α} {i:Nat} (h:l.drop i=[]):l.length<=i:=by have:=aC List.length h;simp only[List.length_drop,cL] at this;omega
def dP {l:List α} {i:Nat} {x:α} {xs:List α} (h:l.drop i=x::xs):l[i]? =some x:=by have:=aC (λm=>m[0]?) h;simpa using this
def cg {l:List α} {i:Nat} {x:α} {xs:List α} (h:l.drop i=x::xs):l.drop (i+1)=xs:=by have:=aC (List.drop 1) h;simpa[nj,qY] using this
def cN {l:List α} {i:Nat} {x:α} {xs:List α} (h:l.drop i=x::xs):decide ((i:Int)<(l.length:Int))=true:=by have:=iL h;simp;omega
def dA {l:List α} {i:Nat} (h:l.drop i=[]):decide ((i:Int)<(l.length:Int))=false:=by have:=oz h;simp;omega
def bN {l:List α} {i:Nat} {x:α} {xs:List α} (h:l.drop i=x::xs) (k:α->Option R):bF l (i:Int) k=k x:=ff (dP h) k
def GA {l:List α} {i:Nat} {x:α} {xs:List α} (h:l.drop i=x::xs) (k:α->Option R):fm l (Int.toNat (i:Int)) k=k x:=by rw[bf];exact iA (dP h) k
def GV {l:List α} {i:Nat} {x:α} {xs:List α} (h:l.drop i=x::xs) (a:Option R):check (0<=(i:Int)/\Int.toNat (i:Int)<l.length) a=a:=
 bJ ⟨af,by rw[bf];exact iL h⟩ a
def dF {l:List α} {i:Nat} {x:α} {xs:List α} (h:l.drop i=x::xs) (q:l.length<=1073741824):wrap .i64 ((i:Int)+1)=((i+1:Nat):Int):=
 cQ (by have:=iL h;omega)
def cu {n m c:Nat} (a:Option R) (h:n<=1073741824) (z:m<=1073741824) (q:c<=1024):check ((n+m) *c<=140737488355328/\n+m<=4611686018427387904) a=a:=by refine bJ ⟨?_,af⟩ a;have w:(n+m) *c<=(n+m) *1024:=zP _ q;omega
def D7 {n:Nat} (h:n<=1073741824):wrap .i64 (((n+1:Nat):Int)-1)=(n:Int):=by rw[jM af af];omega
def tQ (p:α->Bool):List α->Nat->Int
 |[],_=> -1
 |x::xs,i=>if p x then(i:Int) else tQ p xs (i+1)
def aI {α β:Type} (a:α) (k:α->Option β):Option.bind (some a) k=k a:=rfl
def eY {l:List α} {i:Nat} (h:i<l.length) (k:α->Option R):bF l (i:Int) k=k l[i]:=ff (aW h) k
def RF {l:List α} {i:Nat} (h:i<l.length) (k:α->Option R):fm l i k=k l[i]:=iA (aW h) k
end
def EN {U:Type} (enc:U->AV):U->Out:=λx=>(enc x,[])
instance {U:Type} {enc:U->AV} [e7 enc]:e7 (EN enc):=⟨λa b h=>e7.inj _ _ (aC Prod.fst h)⟩
section
variable {T:Type} {E:T->Out}
def Is {x:T}:kE E (some (E x)) (some x):=Eb rfl
def Iz {c:Option Out}:kE E c (dec E c):=jD _ _
def Ic {c:Bool} {a b:Option Out} {q w:Option T} (z:kE E a q) (B:kE E b w):kE E (bif c then a else b) (bif c then q else w):=Be rfl z B
def Ih {p:Prop} [Decidable p] {a:Option Out} {q:Option T} (h:kE E a q):kE E (check p a) (check p q):=fk id h
def Ig {α β:Type} (enc:α->β) [e7 enc] {l:List α} {i:Int} {k:α->Option Out} {k':α->Option T} (h:∀x,kE E (k x) (k' x)):kE E (bF (l.map enc) i λc=>oO enc c k) (bF l i k'):=NK rfl h
def In {α β:Type} (enc:α->β) [e7 enc] {l:List α} {i:Nat} {k:α->Option Out} {k':α->Option T} (h:∀x,kE E (k x) (k' x)):kE E (fm (l.map enc) i λc=>oO enc c k) (fm l i k'):=I9 rfl h
def Ik {U:Type} {enc:U->AV} [e7 enc] {c:Option Out} {k:U->Option Out} {k':U->Option T} (h:∀y,kE E (k y) (k' y)):kE E (r9 c λr=>oO enc r k) (Option.bind (dec (EN enc) c) k'):=Ts (jD _ _) h
end
def mN {T:Type} {E:T->Out} [e7 E] {raw body c:Option Out} {t:Option T} {r:T} (z:t=some r) (q:kE E raw t) (w:body=raw) (h:∀{r:Out},body=some r->c=some r):dec E c=some r:=
 gD (h (w.trans (q _ z)))
class AA (K:n9):Prop where
 is:∀a b:K.T,∃(inst:Decidable (a=b)),rz (K.enc a) (K.enc b)=some (decide (a=b))
section
variable {R:Type}
noncomputable def vh {K V:Type} (l:List (K×V)) (key:K):Option Nat:=open Classical in l.findIdx? λp=>decide (key=p.1)
noncomputable def yJ {K V:Type} (l:List (K×V)) (key:K) (v:V):List (K×V):=match vh l key with
 |some i=>l.set i (key,v)
 |none=>l++[(key,v)]
noncomputable def getM {K V:Type} (l:List (K×V)) (key:K):Option V:=(vh l key).bind λi=>(l[i]?).map (·.2)
noncomputable def u6 {K V:Type} (l:List (K×V)) (key:K) (k:V->Option R) (z:Option R):Option R:=match getM l key with
 |some v=>k v
 |none=>z
def uD {α:Type} (x:α) (k:α->Option R):Option R:=k x
end
def DM {K:n9} [AA K] {V:Type} (key:K.T):∀l:List (K.T×V),lR (K.enc key) (l.map λp=>K.enc p.1)=some (vh l key):=by intro l;induction l with
 |nil=>rfl
 |cons p l q=>
  obtain⟨inst,h⟩:=AA.is (K:=K) key p.1;rw[aK,lR,h];unfold vh;rw[xO];by_cases e:key=p.1
  .simp[e]
  .have:decide (key=p.1)=false:=by simpa using e
   rw[this];simp only[q,bW,e,decide_false,cv,jg];rfl
def LY {K V:Type} {l:List (K×V)} {key:K} {i:Nat} (h:vh l key=some i):∃q:i<l.length,(l[i]'q).1=key:=by unfold vh at h;rw[List.findIdx?_eq_some_iff_getElem] at h;obtain⟨q,w,_⟩:=h;simp only[ni] at w;exact⟨q,w.symm⟩
def tN {K V:n9} [e7 K.enc] [e7 V.enc]:∀{a b:List (K.T×V.T)},(cw K V a).1=(cw K V b).1->(cw K V a).2=(cw K V b).2->a=b:=by intro a;induction a with
 |nil=>intro b h _;cases b with
  |nil=>rfl
  |cons x b=>simp[cw] at h
 |cons x a B=>intro b h q;cases b with
  |nil=>simp[cw] at h
  |cons y b=>simp only[cw,aK,cU] at h q;obtain⟨x1,x2⟩:=x;obtain⟨D,F⟩:=y;have w:x1=D:=e7.inj _ _ h.1;have z:x2=F:=e7.inj _ _ q.1;rw[w,z,B h.2 q.2]
instance {K V:n9} [e7 K.enc] [e7 V.enc]:e7 (cw K V):=⟨λa b h=>tN (aC Prod.fst h) (aC Prod.snd h)⟩
instance {U:Type} {enc:U->List AV} [e7 enc]:e7 (JK enc):=⟨λa b h=>by
 cases a<;>cases b<;>simp only[JK,AV.ref.injEq,reduceCtorEq] at h
 .rfl
 .rw[e7.inj _ _ h]⟩
instance {K:n9} {E:zH} [e7 K.enc] [e7 E.enc]:e7 (BE K E):=⟨λa b=>by
 induction a generalizing b with
 |nil=>intro h;cases b with
  |nil=>rfl
  |cons y b=>simp[BE] at h
 |cons x a H=>intro h;cases b with
  |nil=>simp[BE] at h
  |cons y b=>
   simp only[BE,aK,aQ,cU] at h;obtain⟨⟨D,F⟩,q,G⟩:=h;obtain⟨x1,x2⟩:=x;obtain⟨I,w⟩:=y;have B:x2=w:=by
    cases x2<;>cases w<;>simp only[bW,Option.map_none,aB,reduceCtorEq] at q
    .rfl
    .rw[map_inj e7.inj _ _ q]
   have z:x1=I:=e7.inj _ _ D
   rw[z,B,H b (by simp only[BE];rw[F,G])]⟩
def P0 {K V:n9} [AA K] (key:K.T) (l:List (K.T×V.T)):Kr (K.enc key) (cw K V l).1 (cw K V l).2=some ((getM l key).map V.enc):=by unfold Kr cw getM;rw[DM];cases h:vh l key with
 |none=>rfl
 |some i=>obtain⟨q,_⟩:=LY h;simp[aW q]
def IJ {K V:n9} {l:List (K.T×V.T)} {key:K.T} {v:V.T} {i:Nat} (h:vh l key=some i):cw K V (l.set i (key,v))=((cw K V l).1,(cw K V l).2.set i (V.enc v)):=by
 obtain⟨B,e⟩:=LY h;unfold cw;rw[aQ];constructor
 .rw[gq];apply List.ext_getElem
  .simp
  .intro j w z;rw[List.getElem_set];split
   .rename_i q;subst q;simp[e]
   .rfl
 .rw[gq]
def P5 {K V:n9} [AA K] (key:K.T) (v:V.T) (l:List (K.T×V.T)):xg (K.enc key) (V.enc v) (cw K V l).1 (cw K V l).2=some (cw K V (yJ l key v)):=by have q:lR (K.enc key) (cw K V l).1=some (vh l key):=DM key l;unfold xg yJ;rw[q];cases h:vh l key with
 |none=>simp[cw]
 |some i=>simp only[IJ h]
section
variable {T:Type} {E:T->Out}
def Tt {K V:n9} [AA K] [e7 V.enc] {l:List (K.T×V.T)} {key:K.T} {k:V.T->Option Out} {k':V.T->Option T} {z:Option Out} {w:Option T} (h:∀y,kE E (k y) (k' y)) (B:kE E z w):
  kE E (DK (Kr (K.enc key) (cw K V l).1 (cw K V l).2) (λv=>oO V.enc v k) z) (u6 l key k' w):=by
 intro x q;unfold u6 at q;unfold DK;rw[P0];cases e:getM l key with
 |none=>rw[e] at q;exact B _ q
 |some v=>rw[e] at q;simp only[bW];rw[gT];exact h _ _ q
def Vz {K V:n9} [AA K] [e7 K.enc] [e7 V.enc] {l:List (K.T×V.T)} {key:K.T} {a:AV} {v:V.T} {k:List (K.T×V.T)->Option Out} {k':List (K.T×V.T)->Option T} (q:a=V.enc v) (h:∀m,kE E (k m) (k' m)):
  kE E (KH (xg (K.enc key) a (cw K V l).1 (cw K V l).2) λp=>oO (cw K V) p k) (uD (yJ l key v) k'):=by
 subst q;intro x w;unfold KH;rw[P5];simp only[gT];exact h _ _ w
def jW {A:Type} (enc:A->List AV) (k:Nat):A->List AV:=λx=>(enc x).set k .hole
abbrev mc {V:Type} (enc:V->List AV):List (Option (List V))->List (Option (List (List AV))):=List.map (Option.map (List.map enc))
instance {V:Type} (enc:V->List AV) [e7 enc]:e7 (mc enc):=⟨λa b h=>by
 refine map_inj (λx y e=> ?_) _ _ h;cases x<;>cases y<;>simp at e⊢
 exact map_inj e7.inj _ _ e⟩
instance {V:Type} (enc:V->List AV) [e7 enc]:e7 (List.map (Option.map (List.map enc))):=inferInstanceAs (e7 (mc enc))
def KC {R V:Type} (q:List (Option (List V))) (i:Nat) (k:List V->List (Option (List V))->Option R):Option R:=match q[i]? with
 |some (some w)=>k w (q.set i none)
 |_=>none
def WH {R V:Type} (q:List (Option (List V))) (i:Nat) (k:List V->Option R):Option R:=match q[i]? with
 |some (some w)=>k w
 |_=>none
def wk {q A V:Type} (nZ:q->List V->A):List q->List (Option (List V))->Option (List A)
 |[],[]=>some []
 |x::xs,some y::w=>(wk nZ xs w).map (nZ x y:: ·)
 |_,_=>none
def Mg {R q A V:Type} (nZ:q->List V->A) (xs:List q) (w:List (Option (List V))) (k:List A->Option R):Option R:=match wk nZ xs w with
 |some l=>k l
 |none=>none
def I_nr {V:Type} {enc:V->List AV} [e7 enc] {Y:List (Option (List V))} {i:Nat} {k:List V->Option Out} {k':List V->Option T} (h:∀w,kE E (k w) (k' w)):
  kE E (H9 (mc enc Y) i λc=>oO (List.map enc) c k) (WH Y i k'):=by
 intro x q;unfold WH at q;split at q
 .rename_i w B;have z:(mc enc Y)[i]? =some (some (w.map enc)):=by simp[B]
  unfold H9;rw[z];simp only;rw[gT];exact h _ _ q
 .cases q
def SC {V:Type} {enc:V->List AV} [e7 enc] {Y:List (Option (List V))} {i:Nat} {k:List V->List (Option (List V))->Option Out} {k':List V->List (Option (List V))->Option T} (h:∀q y,kE E (k q y) (k' q y)):
  kE E (H9 (mc enc Y) i λc=>oO (List.map enc) c λq=>oO (mc enc) ((mc enc Y).set i none) λy=>k q y) (KC Y i k'):=by
 intro x w;unfold KC at w;split at w
 .rename_i q D;have z:(mc enc Y)[i]? =some (some (q.map enc)):=by simp[D]
  have B:(mc enc Y).set i none=mc enc (Y.set i none):=by rw[mc,gq];rfl
  unfold H9;rw[z];simp only;rw[gT,B,gT];exact h _ _ _ w
 .cases w
def Ja {V:Type} {enc:V->List AV} [e7 enc] {Y:List (Option (List V))} {i:Nat} {L:List (List AV)} {q:List V} {k:List (Option (List V))->Option Out} {k':List (Option (List V))->Option T} (z:L=q.map enc) (h:∀y,kE E (k y) (k' y)):
  kE E (check (i<(mc enc Y).length) (oO (mc enc) ((mc enc Y).set i (some L)) k)) (check (i<Y.length) (uD (Y.set i (some q)) k')):=by
 subst z;refine fk ah ?_;have w:(mc enc Y).set i (some (q.map enc))=mc enc (Y.set i (some q)):=by rw[mc,gq];rfl
 rw[w,gT];exact h _
def Dt {B A V:Type} {w:B->List AV} {enc:A->List AV} {q:V->List AV} {nZ:B->List V->A} {k s:Nat} (H:∀x z,(w x).set k (.c4 s (z.map q))=enc (nZ x z)):∀{xs:List B} {F:List (Option (List V))} {l:List A},wk nZ xs F=some l->
  ∃c,lD (mc q F)=some c/\rX k s (xs.map w) c=l.map enc
 |[],[],l,h=>by simp only[wk,aB] at h;subst h;exact⟨[],rfl,rfl⟩
 |x::xs,some y::F,l,h=>by
  simp only[wk,bg] at h;obtain⟨K,D,rfl⟩:=h;obtain⟨c,G,I⟩:=Dt H D;refine⟨y.map q::c,?_,?_⟩
  .simp only[mc,aK,bW,lD] at G⊢;rw[G];rfl
  .simp only[aK,rX,H,I]
 |[],_::_,l,h=>by simp[wk] at h
 |_::_,[],l,h=>by simp[wk] at h
 |_::_,none::_,l,h=>by simp[wk] at h
def Tq {B A V:Type} {TN:B->List AV} {enc:A->List AV} [e7 enc] {TM:V->List AV} {nZ:B->List V->A} {q s:Nat} {xs:List B} {D:List (Option (List V))} {k:List A->Option Out} {k':List A->Option T} (h:∀m,kE E (k m) (k' m))
  (I:∀x z,(TN x).set q (.c4 s (z.map TM))=enc (nZ x z):=by intro _ _;rfl):
  kE E (Jh (lD (mc TM D)) λc=>oO (List.map enc) (rX q s (xs.map TN) c) k) (Mg nZ xs D k'):=by
 intro x w;unfold Mg at w;split at w
 .rename_i m H;obtain⟨c,F,G⟩:=Dt I H;unfold Jh;rw[F];simp only;rw[G,gT];exact h _ _ w
 .cases w
def I8 {V:Type} {enc:V->List AV} [e7 enc] {Y Z:List (Option (List V))} {k:List (Option (List V))->Option Out} {k':List (Option (List V))->Option T} (h:∀y,kE E (k y) (k' y)):
  kE E (oO (mc enc) (mc enc Y++mc enc Z) k) (uD (Y++Z) k'):=by
 have e:mc enc Y++mc enc Z=mc enc (Y++Z):=by rw[mc,bw]
 rw[e,gT];exact h _
def Ea {U:Type} {q:U->Out} {c:Option Out} {f:Option U} {w:AV->List (Nat×Ob)->Option Out} {k':U->Option T} (D:kE q c f) (h:∀y,kE E (w (q y).1 (q y).2) (k' y)):kE E (q9 c w) (Option.bind f k'):=by intro x F;obtain⟨y,z,B⟩:=bind_some F;rw[D _ z];unfold q9;exact h _ _ B
def NJ {U V:Type} {q:U×V->Out} {c:Option Out} {f:Option (U×V)} {kk:AV->List (Nat×Ob)->Option Out} {k':U->V->Option T} (w:kE q c f) (h:∀y v,kE E (kk (q (y,v)).1 (q (y,v)).2) (k' y v)):kE E (q9 c kk) (GB f k'):=
 Ea w λp=>h p.1 p.2
def Rb {U:Type} {enc:U->List AV} [e7 enc] {o:Option U} {k:U->Option Out} {k':U->Option T} (h:∀x,kE E (k x) (k' x)):kE E (Na (JK enc o) λw=>oO enc w k) (Nc o k'):=by intro x q;cases o with
 |none=>simp[Nc] at q
 |some y=>unfold Na JK;simp only;rw[gT];exact h _ _ q
def NL {q:Nat} {o:Ob} {l:List (Nat×Ob)} {k:Ob->List (Nat×Ob)->Option Out} {t:Option T} (h:kE E (k o l) t):kE E (kJ q ((q,o)::l) k) t:=by
 have:kJ q ((q,o)::l) k=k o l:=by unfold kJ;simp only[eu,ai]
 rw[this];exact h
def Tr {xs:List AV} {k:List AV->Option Out} {t:Option T} (h:kE E (k xs) t):kE E (N0 (.lp xs) k) t:=by unfold N0;exact h
def Vy {k:Option Out} {t:Option T} (h:kE E k t):kE E (E4 [] k) t:=by unfold E4;exact h
def VA {U:Type} {enc:U->AV} [e7 enc] {y:U} {k:U->Option Out} {t:Option T} (h:kE E (k y) t):kE E (oO enc (enc y) k) t:=by rw[gT];exact h
end
end Go.AM
set_option synthInstance.maxSize 100000
set_option synthInstance.maxHeartbeats 1000000
namespace Go.AM
universe u v
class Rw {α:Sort u} (a:α) (b:outParam α):Prop where
 e:a=b
class CT (α:Type) (enc:outParam (α->List AV)):Prop
class En {α:Type} (l:List α) (enc:outParam (α->List AV)):Prop
def tl {α:Type} (enc:α->List AV) (x:α):α:=x
def tg {α:Type} (enc:α->AV) (x:α):α:=x
def tw {α:Type} (enc:α->List AV) (x:List α):List α:=x
class NI (α:Type) (f:outParam (α->AV)):Prop
class Im {T:Type} (E:T->Out) (t:Option T) (c:outParam (Option Out)):Prop where
 p:kE E c t
def li {T:Type} {E:T->Out} [e7 E] {body c raw:Option Out} {t:Option T} [i:Im E t raw] {r:T} (w:t=some r) (q:body=raw) (h:∀{r:Out},body=some r->c=some r):dec E c=some r:=
 mN w i.p q h
section
instance (priority:=low) iSelf {α:Sort u} (a:α):Rw a a:=⟨rfl⟩
instance (priority:=low) iEn {α:Type} {enc:α->List AV} [CT α enc] (l:List α):En l enc:=⟨⟩
instance iEnE {β:Type} {x:List β} {s:Nat} {f:β->List AV}:En (tl (gI s f) x) f:=⟨⟩
section
variable {α:Type} {enc:α->List AV} {l m:List α}
instance [En l enc]:En (l++m) enc:=⟨⟩
instance [En l enc] {i:Nat} {x:α}:En (l.set i x) enc:=⟨⟩
instance [En l enc] {i:Nat}:En (l.take i) enc:=⟨⟩
instance [En l enc] {i:Nat}:En (l.drop i) enc:=⟨⟩
end
instance:CT Int (bU .i64):=⟨⟩
instance:CT (List UInt8) iP:=⟨⟩
instance:CT Bool mL:=⟨⟩
instance:CT (List Int) (gI 1 (bU .i64)):=⟨⟩
instance:CT (List (List UInt8)) (gI 1 iP):=⟨⟩
variable {α:Type u} {β:Type v}
instance iCons {a q:α} {l w:List α} [Rw a q] [Rw l w]:Rw (a::l) (q::w):=⟨by cases Rw.e (a:=a) (b:=q);cases Rw.e (a:=l) (b:=w);rfl⟩
instance iPair {a q:α} {b w:β} [Rw a q] [Rw b w]:Rw (a,b) (q,w):=⟨by cases Rw.e (a:=a) (b:=q);cases Rw.e (a:=b) (b:=w);rfl⟩
instance iSet {f:α->β} {l:List α} {L:List β} {i q:Nat} {x:α} {y:β} [Rw (l.map f) L] [Rw i q] [Rw (f x) y]:Rw ((l.set i x).map f) (L.set q y):=⟨by cases Rw.e (a:=(l.map f)) (b:=L);cases Rw.e (a:=i) (b:=q);cases Rw.e (a:=(f x)) (b:=y);exact gq ..⟩
instance iApp {f:α->β} {l m:List α} {L M:List β} [Rw (l.map f) L] [Rw (m.map f) M]:Rw ((l++m).map f) (L++M):=⟨by cases Rw.e (a:=(l.map f)) (b:=L);cases Rw.e (a:=(m.map f)) (b:=M);exact bw ..⟩
instance iMc {f:α->β} {x:α} {y:β} {l:List α} {L:List β} [Rw (f x) y] [Rw (l.map f) L]:Rw ((x::l).map f) (y::L):=⟨by cases Rw.e (a:=(f x)) (b:=y);cases Rw.e (a:=(l.map f)) (b:=L);rfl⟩
instance iMn {f:α->β}:Rw (([]:List α).map f) []:=⟨rfl⟩
instance iTake {f:α->β} {l:List α} {L:List β} {n q:Nat} [Rw (l.map f) L] [Rw n q]:Rw ((l.take n).map f) (L.take q):=⟨by cases Rw.e (a:=(l.map f)) (b:=L);cases Rw.e (a:=n) (b:=q);exact List.map_take ..⟩
instance iDrop {f:α->β} {l:List α} {L:List β} {n q:Nat} [Rw (l.map f) L] [Rw n q]:Rw ((l.drop n).map f) (L.drop q):=⟨by cases Rw.e (a:=(l.map f)) (b:=L);cases Rw.e (a:=n) (b:=q);exact List.map_drop ..⟩
instance iRep {f:α->β} {n q:Nat} {x:α} {y:β} [Rw n q] [Rw (f x) y]:Rw ((List.replicate n x).map f) (List.replicate q y):=⟨by cases Rw.e (a:=n) (b:=q);cases Rw.e (a:=(f x)) (b:=y);exact p5 ..⟩
instance iELst {U:Type} {s:Nat} {f:U->List AV} {l:List U} {L:List (List AV)} [Rw (l.map f) L]:Rw (gI s f l) [.c4 s L]:=⟨by cases Rw.e (a:=(l.map f)) (b:=L);rfl⟩
instance iEInt {k:IntKind} {x y:Int} [Rw x y]:Rw (bU k x) [.int k y]:=⟨by cases Rw.e (a:=x) (b:=y);rfl⟩
instance {x y:AV} [Rw x y]:Rw (SV.pv x) (.pv y):=⟨by cases Rw.e (a:=x) (b:=y);rfl⟩
instance {k:IntKind} {x y:Int} [Rw x y]:Rw (AV.int k x) (.int k y):=⟨by cases Rw.e (a:=x) (b:=y);rfl⟩
instance {s:Nat} {x y:List (List AV)} [Rw x y]:Rw (AV.c4 s x) (.c4 s y):=⟨by cases Rw.e (a:=x) (b:=y);rfl⟩
instance {x y:Nat} [Rw x y]:Rw (AV.self x) (.self y):=⟨by cases Rw.e (a:=x) (b:=y);rfl⟩
instance {x y:List AV} [Rw x y]:Rw (AV.agg x) (.agg y):=⟨by cases Rw.e (a:=x) (b:=y);rfl⟩
instance {x y:List AV} [Rw x y]:Rw (AV.jy x) (.jy y):=⟨by cases Rw.e (a:=x) (b:=y);rfl⟩
instance {x y:Bool} [Rw x y]:Rw (AV.bool x) (.bool y):=⟨by cases Rw.e (a:=x) (b:=y);rfl⟩
instance {x y:List UInt8} [Rw x y]:Rw (AV.str x) (.str y):=⟨by cases Rw.e (a:=x) (b:=y);rfl⟩
instance {i s a b c d:Nat} [Rw a c] [Rw b d]:Rw (SV.sub i s a b) (.sub i s c d):=⟨by cases Rw.e (a:=a) (b:=c);cases Rw.e (a:=b) (b:=d);rfl⟩
instance {e s:Nat} {x y:List (List AV)} [Rw x y]:Rw (Ob.row e s x) (.row e s y):=⟨by cases Rw.e (a:=x) (b:=y);rfl⟩
instance {e:Nat} {x y:List SV} [Rw x y]:Rw (Ob.box e x) (.box e y):=⟨by cases Rw.e (a:=x) (b:=y);rfl⟩
instance {U:Type} {Q:U->AV} {x:U} {a:AV} [Rw (Q x) a]:Rw (EN Q x) (a,[]):=⟨by cases Rw.e (a:=Q x) (b:=a);rfl⟩
instance iLen {U:Type} {l:List U} {enc:U->List AV} {L:List (List AV)} [En l enc] [Rw (l.map enc) L]:Rw l.length L.length:=⟨by cases Rw.e (a:=(l.map enc)) (b:=L);exact(aR ..).symm⟩
instance {x y:Nat} [Rw x y]:Rw (x:Int) (y:Int):=⟨by cases Rw.e (a:=x) (b:=y);rfl⟩
instance {x y:Int} [Rw x y]:Rw (Int.toNat x) (Int.toNat y):=⟨by cases Rw.e (a:=x) (b:=y);rfl⟩
instance {k:IntKind} {x y:Int} [Rw x y]:Rw (wrap k x) (wrap k y):=⟨by cases Rw.e (a:=x) (b:=y);rfl⟩
instance [HAdd α α α] {a b q w:α} [Rw a q] [Rw b w]:Rw (a+b) (q+w):=⟨by cases Rw.e (a:=a) (b:=q);cases Rw.e (a:=b) (b:=w);rfl⟩
instance [HSub α α α] {a b q w:α} [Rw a q] [Rw b w]:Rw (a-b) (q-w):=⟨by cases Rw.e (a:=a) (b:=q);cases Rw.e (a:=b) (b:=w);rfl⟩
instance [HMul α α α] {a b q w:α} [Rw a q] [Rw b w]:Rw (a *b) (q *w):=⟨by cases Rw.e (a:=a) (b:=q);cases Rw.e (a:=b) (b:=w);rfl⟩
instance [LT α] {a b q w:α} [Rw a q] [Rw b w]:Rw (a<b) (q<w):=⟨by cases Rw.e (a:=a) (b:=q);cases Rw.e (a:=b) (b:=w);rfl⟩
instance [LE α] {a b q w:α} [Rw a q] [Rw b w]:Rw (a<=b) (q<=w):=⟨by cases Rw.e (a:=a) (b:=q);cases Rw.e (a:=b) (b:=w);rfl⟩
instance [LT α] {a b q w:α} [Rw a q] [Rw b w]:Rw (a>b) (q>w):=⟨by cases Rw.e (a:=a) (b:=q);cases Rw.e (a:=b) (b:=w);rfl⟩
instance [LE α] {a b q w:α} [Rw a q] [Rw b w]:Rw (a>=b) (q>=w):=⟨by cases Rw.e (a:=a) (b:=q);cases Rw.e (a:=b) (b:=w);rfl⟩
instance {a b q w:α} [Rw a q] [Rw b w]:Rw (a=b) (q=w):=⟨by cases Rw.e (a:=a) (b:=q);cases Rw.e (a:=b) (b:=w);rfl⟩
instance {p q w z:Prop} [Rw p w] [Rw q z]:Rw (p/\q) (w/\z):=⟨by cases Rw.e (a:=p) (b:=w);cases Rw.e (a:=q) (b:=z);rfl⟩
instance {p q:Prop} [Rw p q] [i:Decidable p] [j:Decidable q]:Rw (decide p) (decide q):=⟨by
 cases Rw.e (a:=p) (b:=q);congr⟩
instance [BEq α] {a b q w:α} [Rw a q] [Rw b w]:Rw (a==b) (q==w):=⟨by cases Rw.e (a:=a) (b:=q);cases Rw.e (a:=b) (b:=w);rfl⟩
instance [BEq α] {a b q w:α} [Rw a q] [Rw b w]:Rw (a !=b) (q !=w):=⟨by cases Rw.e (a:=a) (b:=q);cases Rw.e (a:=b) (b:=w);rfl⟩
instance {a q:Bool} [Rw a q]:Rw (!a) (!q):=⟨by cases Rw.e (a:=a) (b:=q);rfl⟩
instance {a b q w:Bool} [Rw a q] [Rw b w]:Rw (a&&b) (q&&w):=⟨by cases Rw.e (a:=a) (b:=q);cases Rw.e (a:=b) (b:=w);rfl⟩
instance iRun {P:Program} {H:Nat->Hint} {dm:cr} {f:Nat} {a q:List SV} {l w:List (Nat×Ob)} [Rw a q] [Rw l w]:Rw (run P H dm f a l) (run P H dm f q w):=⟨by cases Rw.e (a:=a) (b:=q);cases Rw.e (a:=l) (b:=w);rfl⟩
instance iHead {P:Program} {C:jF} {H:Nat->Hint} {dm:cr} {f key:Nat} {z:List Nat} {a q:List (Nat×SV)} {l w:List (Nat×Ob)} [Rw a q] [Rw l w]:Rw (mM P C H dm f key z a l) (mM P C H dm f key z q w):=⟨by cases Rw.e (a:=a) (b:=q);cases Rw.e (a:=l) (b:=w);rfl⟩
end
section
variable {T:Type} {E:T->Out}
instance mSome {x:T} {y:Out} [Rw (E x) y]:Im E (some x) (some y):=⟨Eb (Rw.e (a:=E x)).symm⟩
instance mDeref {U:Type} {enc:U->List AV} [CT U enc] [e7 enc] {o:Option U} {k:U->Option Out} {k':U->Option T} [∀x,Im E (k' x) (k x)]:Im E (Nc o k') (Na (JK enc o) λq=>oO enc q k):=⟨Rb λx=>Im.p (t:=k' x)⟩
instance mDec {c c':Option Out} [Rw c c']:Im E (dec E c) c':=⟨by rw[<-Rw.e (a:=c) (b:=c')];exact Iz⟩
instance mCond {c c':Bool} {a b:Option Out} {q w:Option T} [Rw c' c] [Im E q a] [Im E w b]:Im E (bif c' then q else w) (bif c then a else b):=⟨Be (Rw.e (a:=c')).symm (Im.p (t:=q)) (Im.p (t:=w))⟩
instance mCheck {p q:Prop} [Decidable q] [Rw q p] [Decidable p] {a:Option Out} {w:Option T} [Im E w a]:Im E (check q w) (check p a):=⟨fk (λh=>by rw[<-Rw.e (a:=q) (b:=p)];exact h) (Im.p (t:=w))⟩
instance mGetK {α:Type} {enc:α->List AV} {l:List α} [En l enc] [e7 enc] {L:List (List AV)} [Rw (l.map enc) L] {i q:Int} [Rw q i] {k:α->Option Out} {k':α->Option T} [h:∀x,Im E (k' (tl enc x)) (k x)]:Im E (bF l q k') (bF L i λc=>oO enc c k):=⟨K8 (Rw.e (a:=l.map enc)).symm (Rw.e (a:=q)).symm λx=>(h x).p⟩
instance mGetN {α:Type} {enc:α->List AV} {l:List α} [En l enc] [e7 enc] {L:List (List AV)} [Rw (l.map enc) L] {i q:Nat} [Rw q i] {k:α->Option Out} {k':α->Option T} [h:∀x,Im E (k' (tl enc x)) (k x)]:Im E (fm l q k') (fm L i λc=>oO enc c k):=⟨Rc (Rw.e (a:=l.map enc)).symm (Rw.e (a:=q)).symm λx=>(h x).p⟩
instance mCall {U:Type} {enc:U->AV} [e7 enc] {c c':Option Out} [Rw c' c] {k:U->Option Out} {k':U->Option T} [h:∀y,Im E (k' (tg enc y)) (k y)]:Im E (Option.bind (dec (EN enc) c') k') (r9 c λr=>oO enc r k):=⟨by rw[Rw.e (a:=c') (b:=c)];exact Ik λy=>(h y).p⟩
end
section
variable {α β:Type}
def pA (enc:α->List AV):α->AV:=λx=> .agg (enc x)
def pL (n:Nat) (enc:α->List AV):List α->AV:=λx=> .c4 n (x.map enc)
def pP (f:α->AV) (g:β->AV):α×β->AV:=λx=> .jy [f x.1,g x.2]
def pW (e n:Nat) (enc:α->List AV):List α->AV:=λx=> .jy [.jy [.self e, .c4 n (x.map enc)]]
def pM (f:α->AV) (g:β->AV):List (α×β)->AV:=λx=> .mp (cw ⟨α,f⟩ ⟨β,g⟩ x).1 (cw ⟨α,f⟩ ⟨β,g⟩ x).2
def pF (n:Nat) (enc:α->List AV):List α->AV:=λx=> .fn n [.ref [.c4 2 (x.map enc)]]
def pU:Unit->AV:=λ_=> .jy []
variable {f:α->AV} {g:β->AV} {enc:α->List AV} {n e:Nat}
instance {k:IntKind}:e7 (AV.int k):=⟨λa b h=>by injection h⟩
instance:e7 AV.bool:=⟨λa b h=>by injection h⟩
instance:e7 AV.str:=⟨λa b h=>by injection h⟩
instance:e7 AV.self:=⟨λa b h=>by injection h⟩
instance:e7 pU:=⟨λ_ _ _=>rfl⟩
instance [e7 enc]:e7 (pA enc):=⟨λa b h=>by injection h with h;exact e7.inj _ _ h⟩
instance [e7 enc]:e7 (pL n enc):=⟨λa b h=>by injection h with _ h;exact map_inj e7.inj _ _ h⟩
instance [e7 f] [e7 g]:e7 (pP f g):=⟨λa b h=>by
 simp only[pP,AV.jy.injEq,cU,dL] at h
 exact Prod.ext (e7.inj _ _ h.1) (e7.inj _ _ h.2)⟩
instance [e7 enc]:e7 (pW e n enc):=⟨λa b h=>by
 simp only[pW,AV.jy.injEq,cU,AV.c4.injEq,fD,dL] at h
 exact map_inj e7.inj _ _ h⟩
instance [e7 enc]:e7 (pF n enc):=⟨λa b h=>by
 simp only[pF,AV.fn.injEq,AV.ref.injEq,cU,AV.c4.injEq,fD,dL] at h
 exact map_inj e7.inj _ _ h⟩
instance [i:e7 f] [j:e7 g]:e7 (pM f g):=⟨λa b h=>by injection h with q w;exact @tN ⟨α,f⟩ ⟨β,g⟩ i j _ _ q w⟩
instance {l:List α} {L:List (List AV)} [Rw (l.map enc) L]:Rw (pL n enc l) (.c4 n L):=⟨by cases Rw.e (a:=l.map enc) (b:=L);rfl⟩
instance {x:α} {y:β} {a b:AV} [Rw (f x) a] [Rw (g y) b]:Rw (pP f g (x,y)) (.jy [a,b]):=⟨by cases Rw.e (a:=f x) (b:=a);cases Rw.e (a:=g y) (b:=b);rfl⟩
instance {x:List α}:En (tg (pL n enc) x) enc:=⟨⟩
instance {x:List α×β}:En (tg (pP (pL n enc) g) x).1 enc:=⟨⟩
instance {x:β×List α}:En (tg (pP g (pL n enc)) x).2 enc:=⟨⟩
end
structure Sl where
 e:List (Nat×Ob)
 r:List (Nat×Ob)->Option Out->Option Out
 ok:∀k,r e k=k
structure De (T:Type) where
 e:T->List (Nat×Ob)
 r:List (Nat×Ob)->(T->Option Out)->Option Out
 ok:∀x k,r (e x) k=k x
structure It (α:Type) where
 e:α->Ob
 r:Ob->(α->Option Out)->Option Out
 ok:∀x k,r (e x) k=k x
noncomputable section
def unc (q:Nat) (o:Ob) (l:List (Nat×Ob)) (k:Ob->List (Nat×Ob)->Option Out):kJ q ((q,o)::l) k=k o l:=by unfold kJ;simp
def smk (o:Ob) (k:Option Out):yO o o k=k:=by unfold yO;simp
def dZ:Sl:=⟨[],E4,λk=>by unfold E4;rfl⟩
def dS (q:Nat) (w:Ob) (z:Sl):Sl:=⟨(q,w)::z.e,λl k=>kJ q l λo l=>yO o w (z.r l k),λk=>by rw[unc,smk,z.ok]⟩
def iR {α:Type} (e q:Nat) (enc:α->List AV) [e7 enc]:It (List α):=⟨λxs=> .row e q (xs.map enc),λo k=>Gz e q o λc=>oO (List.map enc) c k,λx k=>by unfold Gz;simp[gT]⟩
def iM (w q:Nat) (K V:n9) [e7 K.enc] [e7 V.enc]:It (List (K.T×V.T)):=⟨λl=> .mp w q (cw K V l).1 (cw K V l).2,λo k=>Gy w q o λc=>oO (cw K V) c k,λx k=>by unfold Gy;simp[gT]⟩
section
variable {α T:Type}
def dT (q:Nat) (w:Ob) (d:De T):De T:=⟨λx=>(q,w)::d.e x,λl k=>kJ q l λo l=>yO o w (d.r l k),λx k=>by rw[unc,smk,d.ok]⟩
def dI (q:Nat) (i:It α) (d:De T):De (α×T):=⟨λx=>(q,i.e x.1)::d.e x.2,λl k=>kJ q l λo l=>i.r o λx=>d.r l λy=>k (x,y),λx k=>by rw[unc,i.ok,d.ok]⟩
def dJ (q:Nat) (i:It α) (z:Sl):De α:=⟨λx=>(q,i.e x)::z.e,λl k=>kJ q l λo l=>i.r o λx=>z.r l (k x),λx k=>by rw[unc,i.ok,z.ok]⟩
variable {U:Type}
def eD (Q:U->AV) (d:De T):U×T->Out:=λx=>(Q x.1,d.e x.2)
def eZ (Q:U->AV) (z:Sl):U->Out:=λx=>(Q x,z.e)
def eR {V:Type} (Q:U->AV) (q e w:Nat) (enc:V->List AV):U×List V->Out:=λx=>(Q x.1,[(q, .row e w (x.2.map enc))])
instance {V:Type} {Q:U->AV} {q e sz:Nat} {enc:V->List AV} {x:U} {l:List V} {a:AV} {L:List (List AV)} [Rw (Q x) a] [Rw (l.map enc) L]:Rw (eR Q q e sz enc (x,l)) (a,[(q, .row e sz L)]):=⟨by cases Rw.e (a:=Q x) (b:=a);cases Rw.e (a:=l.map enc) (b:=L);rfl⟩
class RwI {V:Type} (i:It V) (x:V) (o:outParam Ob):Prop where
 e:i.e x=o
class Vc {V:Type} (d:De V) (x:V) (l:outParam (List (Nat×Ob))):Prop where
 e:d.e x=l
instance (priority:=low) {i:It α} {x:α}:RwI i x (i.e x):=⟨rfl⟩
instance {V:Type} {e sz:Nat} {enc:V->List AV} [e7 enc] {l:List V} {L:List (List AV)} [j:Rw (l.map enc) L]:RwI (iR e sz enc) l (.row e sz L):=⟨by rw[<-j.e];rfl⟩
instance {q:Nat} {z:Ob} {d:De T} {w:T} {l:List (Nat×Ob)} [j:Vc d w l]:Vc (dT q z d) w ((q,z)::l):=⟨by rw[<-j.e];rfl⟩
instance {q:Nat} {i:It α} {d:De T} {x:α} {w:T} {o:Ob} {l:List (Nat×Ob)} [k:RwI i x o] [j:Vc d w l]:Vc (dI q i d) (x,w) ((q,o)::l):=⟨by rw[<-j.e,<-k.e];rfl⟩
instance {q:Nat} {i:It α} {z:Sl} {x:α} {o:Ob} [k:RwI i x o]:Vc (dJ q i z) x ((q,o)::z.e):=⟨by rw[<-k.e];rfl⟩
instance {Q:U->AV} {d:De T} {x:U} {w:T} {a:AV} {l:List (Nat×Ob)} [i:Rw (Q x) a] [j:Vc d w l]:Rw (eD Q d (x,w)) (a,l):=⟨by rw[<-i.e,<-j.e];rfl⟩
def De.inj (d:De T) {a b:T} (h:d.e a=d.e b):a=b:=by
 have q:=d.ok a λx=>open Classical in if x=a then some (.yB,[]) else none
 rw[h,d.ok] at q;simp at q;exact q.symm
instance {Q:U->AV} [e7 Q] {d:De T}:e7 (eD Q d):=⟨λa b h=>Prod.ext (e7.inj _ _ (aC Prod.fst h)) (d.inj (aC Prod.snd h))⟩
instance {Q:U->AV} [e7 Q] {z:Sl}:e7 (eZ Q z):=⟨λa b h=>e7.inj _ _ (aC Prod.fst h)⟩
instance {V:Type} {Q:U->AV} [e7 Q] {q e sz:Nat} {enc:V->List AV} [e7 enc]:e7 (eR Q q e sz enc):=⟨λa b h=>by
 simp only[eR,aQ,cU,Ob.row.injEq,fD,dL] at h
 exact Prod.ext (e7.inj _ _ h.1) (map_inj e7.inj _ _ h.2)⟩
end
end
section
variable {T U W:Type} {E:T->Out} {Q:U->AV} [e7 Q] {c c':Option Out}
def Vx {d:De W} {k:U->W->Option Out} {k':U×W->Option T} (h:∀y w,kE E (k y w) (k' (y,w))):kE E (q9 c λr l=>d.r l λw=>oO Q r λy=>k y w) (Option.bind (dec (eD Q d) c) k'):=
 Ea (jD _ _) λy=>by simp only[eD,d.ok,gT];exact h _ _
instance mCallZ {z:Sl} [Rw c' c] {k:U->Option Out} {k':U->Option T} [h:∀y,Im E (k' (tg Q y)) (k y)]:Im E (Option.bind (dec (eZ Q z) c') k') (q9 c λr l=>z.r l (oO Q r k)):=⟨by
 rw[Rw.e (a:=c') (b:=c)];exact Ea (jD _ _) λy=>by simp only[eZ,z.ok,gT];exact(h y).p⟩
instance mCall2 {d:De W} [Rw c' c] {k:U->W->Option Out} {k':U->W->Option T} [h:∀y w,Im E (k' (tg Q y) w) (k y w)]:Im E (GB (dec (eD Q d) c') k') (q9 c λr l=>d.r l λw=>oO Q r λy=>k y w):=⟨by
 rw[Rw.e (a:=c') (b:=c)];exact Vx λy w=>(h y w).p⟩
instance mCall3 {q z:Type} {d:De (q×z)} [Rw c' c] {k:U->q->z->Option Out} {k':U->q->z->Option T} [h:∀y B D,Im E (k' (tg Q y) B D) (k y B D)]:Im E (GC (dec (eD Q d) c') k') (q9 c λr l=>d.r l λw=>oO Q r λy=>k y w.1 w.2):=⟨by
 rw[Rw.e (a:=c') (b:=c)];exact Vx λy w=>(h y w.1 w.2).p⟩
instance mCall4 {q z B:Type} {d:De (q×z×B)} [Rw c' c] {k:U->q->z->B->Option Out} {k':U->q->z->B->Option T} [h:∀y D F G,Im E (k' (tg Q y) D F G) (k y D F G)]:Im E (um (dec (eD Q d) c') k') (q9 c λr l=>d.r l λw=>oO Q r λy=>k y w.1 w.2.1 w.2.2):=⟨by
 rw[Rw.e (a:=c') (b:=c)];exact Vx λy w=>(h y w.1 w.2.1 w.2.2).p⟩
instance mCall5 {q z B D:Type} {d:De (q×z×B×D)} [Rw c' c] {k:U->q->z->B->D->Option Out} {k':U->q->z->B->D->Option T} [h:∀y F G H I,Im E (k' (tg Q y) F G H I) (k y F G H I)]:Im E (zT (dec (eD Q d) c') k') (q9 c λr l=>d.r l λw=>oO Q r λy=>k y w.1 w.2.1 w.2.2.1 w.2.2.2):=⟨by
 rw[Rw.e (a:=c') (b:=c)];exact Vx λy w=>(h y w.1 w.2.1 w.2.2.1 w.2.2.2).p⟩
instance mCall6 {q z B D F:Type} {d:De (q×z×B×D×F)} [Rw c' c] {k:U->q->z->B->D->F->Option Out} {k':U->q->z->B->D->F->Option T} [h:∀y G H I K L,Im E (k' (tg Q y) G H I K L) (k y G H I K L)]:Im E (GD (dec (eD Q d) c') k') (q9 c λr l=>d.r l λw=>oO Q r λy=>k y w.1 w.2.1 w.2.2.1 w.2.2.2.1 w.2.2.2.2):=⟨by
 rw[Rw.e (a:=c') (b:=c)];exact Vx λy w=>(h y w.1 w.2.1 w.2.2.1 w.2.2.2.1 w.2.2.2.2).p⟩
instance:NI Int (AV.int .i64):=⟨⟩
instance:NI Bool AV.bool:=⟨⟩
instance:NI (List UInt8) AV.str:=⟨⟩
end
section
variable {T:Type} {E:T->Out} {κ ν:Type} {f:κ->AV} {g:ν->AV} {l:List (κ×ν)} {key:κ} {a:AV}
instance mLook [NI κ f] [NI ν g] [AA ⟨κ,f⟩] [i:e7 g] [Rw (f key) a] {k:ν->Option Out} {k':ν->Option T} {z:Option Out} {q:Option T} [h:∀y,Im E (k' (tg g y)) (k y)] [Im E q z]:Im E (u6 l key k' q) (DK (Kr a (cw ⟨κ,f⟩ ⟨ν,g⟩ l).1 (cw ⟨κ,f⟩ ⟨ν,g⟩ l).2) (λv=>oO g v k) z):=⟨by
 rw[<-Rw.e (a:=f key) (b:=a)];exact @Tt T E ⟨κ,f⟩ ⟨ν,g⟩ _ i l key k k' z q (λy=>(h y).p) Im.p⟩
instance mPut [NI κ f] [NI ν g] [AA ⟨κ,f⟩] [i:e7 g] [Rw (f key) a] [j:e7 f] {v:ν} {b:AV} [Rw (g v) b] {k:List (κ×ν)->Option Out} {k':List (κ×ν)->Option T} [h:∀m,Im E (k' m) (k m)]:Im E (uD (yJ l key v) k') (KH (xg a b (cw ⟨κ,f⟩ ⟨ν,g⟩ l).1 (cw ⟨κ,f⟩ ⟨ν,g⟩ l).2) λp=>oO (cw ⟨κ,f⟩ ⟨ν,g⟩) p k):=⟨by
 rw[<-Rw.e (a:=f key) (b:=a)];exact @Vz T E ⟨κ,f⟩ ⟨ν,g⟩ _ j i l key b v k k' (Rw.e (a:=g v)).symm λm=>(h m).p⟩
instance [NI κ f] [NI ν g]:Rw l.length (cw ⟨κ,f⟩ ⟨ν,g⟩ l).1.length:=⟨by simp[cw]⟩
end
