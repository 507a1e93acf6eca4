/- THE ABSTRACT MACHINE. -/
import Derived.Test.YtacapiamkgkkjaaGreatDoorAmT
set_option linter.all false
open Go.IntKind (wrap)
namespace Go.AM
class eO {T α:Type} (enc:T->α):Prop where
 inj:∀a b,enc a=enc b->a=b
def dX (k:IntKind) (a:Int):List AV:=[.int k a]
def oV (s:List UInt8):List AV:=[.str s]
def VU (b:Bool):List AV:=[.bool b]
def mJ {T:Type} (q:Nat) (enc:T->List AV) (l:List T):List AV:=[.dy q (l.map enc)]
def map_inj {T α:Type} {enc:T->α} (h:∀a b,enc a=enc b->a=b):∀(l m:List T),l.map enc=m.map enc->l=m:=by intro l;induction l with
 |nil=>intro m q;cases m with
  |nil=>rfl
  |cons x m=>simp at q
 |cons x l w=>intro m q;cases m with
  |nil=>simp at q
  |cons y m=>simp only[bu,cg] at q;rw[h _ _ q.1,w _ q.2]
instance {k:IntKind}:eO (dX k):=⟨λa b h=>by simpa[dX] using h⟩
instance:eO oV:=⟨λa b h=>by simpa[oV] using h⟩
instance:eO VU:=⟨λa b h=>by simpa[VU] using h⟩
instance {T α:Type} {enc:T->α} [eO enc]:eO (List.map enc):=⟨map_inj eO.inj⟩
instance {T:Type} {sz:Nat} {enc:T->List AV} [eO enc]:eO (mJ sz enc):=⟨λa b h=>by
 simp only[mJ,cg,AV.dy.injEq,c9,cR] at h
 exact map_inj eO.inj _ _ h⟩
section
variable {R:Type}
def kg {α T:Type} {enc:T->α} [eO enc] (d:T) (k:T->Option R):rP enc (enc d) k=k d:=asE_pos eO.inj d k
def QC (r:AV) (k:AV->Option R):xL (some (r,[])) k=k r:=XY rfl k
def QH (l e q:Nat) (r:AV) (xs:List (List AV)) (k:AV->List (List AV)->Option R):GL (some (r,[(l, .row e q xs)])) l e q k=k r xs:=X0 rfl k
def u7 {α:Type} [Inhabited α] {l:List α} {i:Nat} (h:i<l.length) (k:α->Option R):bB l (i:Int) k=k (l.getD i default):=
 iS (by rw[aN h,bq,aN h];rfl) k
def xR {α:Type} [Inhabited α] {l:List α} {i:Int} (q:0<=i) (h:i<l.length) (k:α->Option R):bB l i k=k (l.getD i.toNat default):=by obtain⟨n,rfl⟩:=fU q;exact u7 af k
def V6 {α:Type} [Inhabited α] {l:List α} {i:Nat} (h:i<l.length) (k:α->Option R):eH l i k=k (l.getD i default):=
 kZ (by rw[aN h,bq,aN h];rfl) k
end
def Y2 (n:Int):wrap .i64 n=if 9223372036854775808<=n % 18446744073709551616 then n % 18446744073709551616-18446744073709551616 else n % 18446744073709551616:=by show(if(true&&decide (n % 18446744073709551616>=9223372036854775808))=true then n % 18446744073709551616-18446744073709551616 else n % 18446744073709551616)=_;simp only[gq,je,ge_iff_le]
def oz {n:Int} (l: -9223372036854775808<=n) (q:n<=9223372036854775807):wrap .i64 n=n:=by rw[Y2];split<;>omega
theorem VD (n:Int):wrap .u64 n=n % 18446744073709551616:=by show(if(false&&decide (n % 18446744073709551616>=9223372036854775808))=true then n % 18446744073709551616-18446744073709551616 else n % 18446744073709551616)=_;simp
theorem zT {n:Int} (l:0<=n) (q:n<=18446744073709551615):wrap .u64 n=n:=by rw[VD];omega
def bQ {i:Nat} (h:i<4611686018427387904):wrap .i64 ((i:Int)+1)=((i+1:Nat):Int):=by rw[oz af af];omega
def cond_pos {α:Type} {b:Bool} (h:b=true) (x y:α):cond b x y=x:=by subst h;rfl
def cond_neg {α:Type} {b:Bool} (h:b=false) (x y:α):cond b x y=y:=by subst h;rfl
end Go.AM
namespace Go.AM
def BU (a:List UInt8):Op.bytesLess a a=false:=by induction a with
 |nil=>rfl
 |cons x a l=>simp[Op.bytesLess,l]
def AL:∀(a b:List UInt8),Op.bytesLess a b=false->a≠b->Op.bytesLess b a=true:=by intro a;induction a with
 |nil=>intro b h l;cases b with
  |nil=>exact absurd rfl l
  |cons y b=>simp[Op.bytesLess] at h
 |cons x a z=>intro b h l;cases b with
  |nil=>rfl
  |cons y b=>
   simp only[Op.bytesLess,jT,aS,Bool.and_eq_false_iff] at h;simp only[Op.bytesLess,gA,je,aK,gT];by_cases e:x=y
   .subst e;refine .inr ⟨rfl,z b (h.2.resolve_left ai) λe=>l (by rw[e])⟩
   .refine .inl ?_;have w:=h.1;simp only[DR] at w⊢
    have:x.toNat≠y.toNat:=λq=>e (UInt8.toNat.inj q)
    omega
def vq:∀(a b c:List UInt8),Op.bytesLess a b=true->Op.bytesLess b c=true->Op.bytesLess a c=true:=by intro a;induction a with
 |nil=>intro b c q l;cases c with
  |nil=>simp[Op.bytesLess] at l
  |cons z c=>rfl
 |cons x a w=>intro b c q l;cases b with
  |nil=>simp[Op.bytesLess] at q
  |cons y b=>cases c with
   |nil=>simp[Op.bytesLess] at l
   |cons z c=>
    simp only[Op.bytesLess,gA,je,aK,gT,DR] at q l⊢;rcases q with q|⟨rfl,q⟩
    .rcases l with l|⟨rfl,l⟩
     .exact .inl af
     .exact .inl q
    .rcases l with l|⟨rfl,l⟩
     .exact .inl l
     .exact .inr ⟨rfl,w b c q l⟩
def AK {a b:List UInt8} (h:Op.bytesLess a b=true):Op.bytesLess b a=false:=by cases e:Op.bytesLess b a with
 |false=>rfl
 |true=>have:=vq _ _ _ h e;rw[BU] at this;cases this
section
variable {α:Type} (lt:α->α->Bool)
def rW (x:α):List α->List α
 |[]=>[x]
 |y::l=>if lt x y=true then x::y::l else y::rW x l
def mN (l:List α):Prop:=l.Pairwise λa b=>lt b a=false
theorem JG {x:α} {p q:List α} (l:∀y∈p,lt x y=false) (w:∀y∈q,lt x y=true):rW lt x (p++q)=p++x::q:=by induction p with
 |nil=>cases q with
  |nil=>rfl
  |cons y q=>simp only[dS,rW];rw[aB (w y (fN ..))]
 |cons y p D=>simp only[fS,rW];rw[aA (by simp[l y (fN ..)]),D λz B=>l z (dF _ B)]
theorem RJ {x y:α}:∀{l:List α},y∈rW lt x l↔y=x\/y∈l:=by intro l;induction l with
 |nil=>simp[rW]
 |cons z l q=>
  simp only[rW];split
  .simp
  .simp only[aI,q];constructor
   .rintro (h|h|h)<;>simp[h]
   .rintro (h|h|h)<;>simp[h]
theorem RI {x:α}:∀{l:List α},(rW lt x l).length=l.length+1:=by intro l;induction l with
 |nil=>rfl
 |cons y l q=>simp only[rW];split<;>simp[q]
theorem A5 (q:∀a b,lt a b=true->lt b a=false) (up:∀x y z,lt x y=true->lt z y=false->lt x z=true) {x:α}:∀{l:List α},mN lt l->mN lt (rW lt x l):=by intro l;induction l with
 |nil=>intro _;simp[rW,mN]
 |cons y l D=>
  intro B;simp only[mN,dO] at B;simp only[rW];split
  .rename_i h;simp only[mN,dO,aI];refine⟨λz w=> ?_,B⟩;rcases w with rfl|w
   .exact q _ _ h
   .exact q _ _ (up _ _ _ h (B.1 z w))
  .rename_i h;simp only[mN,dO];refine⟨λz w=> ?_,D B.2⟩;rcases(RJ lt).1 w with rfl|w
   .simpa using h
   .exact B.1 z w
def tE (l:List α):List α:=l.foldl (λout x=>rW lt x out) []
end
end Go.AM
namespace Go.AM
abbrev Out:Type:=AV×List (Nat×Ob)
noncomputable def dec {T:Type} (E:T->Out) (c:Option Out):Option T:=
 match c with
 |some r=>open Classical in if h:∃x,E x=r then some h.choose else none
 |none=>none
def kV {T:Type} (E:T->Out) (c:Option Out) (t:Option T):Prop:=∀x,t=some x->c=some (E x)
def jK {T:Type} (E:T->Out) (c:Option Out):kV E c (dec E c):=by intro x l;cases c with
 |none=>simp[dec] at l
 |some r=>
  simp only[dec] at l;split at l
  .rename_i h;have:=h.choose_spec;simp only[aM] at l;rw[<-l,this]
  .simp at l
def xN {T:Type} {E:T->Out} [eO E] {c:Option Out} {x:T} (h:c=some (E x)):dec E c=some x:=by
 subst h;have l:∃y,E y=E x:=⟨x,rfl⟩
 simp only[dec,iG l];rw[eO.inj _ _ l.choose_spec]
section
variable {T:Type} {E:T->Out}
def yB {c:Out} {x:T} (h:c=E x):kV E (some c) (some x):=by intro y l;simp only[aM] at l;subst l;rw[h]
def sH {c c':Bool} {a b:Option Out} {l q:Option T} (B:c=c') (w:kV E a l) (z:kV E b q):kV E (bif c then a else b) (bif c' then l else q):=by
 subst B;cases c
 .exact z
 .exact w
def QL {R:Type} {p:Prop} [Decidable p] {a:Option R} {x:R} (h:check p a=some x):p/\a=some x:=by
 unfold check at h;split at h
 .exact⟨by assumption,h⟩
 .simp at h
def nW {R:Type} {p:Prop} [Decidable p] {a:Option R} (h:p):check p a=a:=by unfold check;rw[aB h]
def kG {p l:Prop} [Decidable p] [Decidable l] {a:Option Out} {q:Option T} (w:l->p) (h:kV E a q):kV E (check p a) (check l q):=by intro x z;have:=QL z;rw[nW (w this.1)];exact h _ this.2
def Zn {α w:Type} {enc:α->w} [eO enc] {L:List w} {l:List α} {i:Int} {k:α->Option Out} {k':α->Option T} (B:L=l.map enc) (h:∀x,kV E (k x) (k' x)):
  kV E (bB L i λc=>rP enc c k) (bB l i k'):=by
 subst B;intro x q;unfold bB at q⊢;split at q
 .rename_i z;rw[dP];cases e:l[i.toNat]? with
  |none=>rw[e] at q;simp at q
  |some y=>rw[e] at q;simp only[cV,aB z];rw[kg];exact h _ _ q
 .simp at q
def Zo {α w:Type} {enc:α->w} [eO enc] {L:List w} {l:List α} {i:Nat} {k:α->Option Out} {k':α->Option T} (z:L=l.map enc) (h:∀x,kV E (k x) (k' x)):
  kV E (eH L i λc=>rP enc c k) (eH l i k'):=by
 subst z;intro x q;unfold eH at q⊢;rw[dP];cases e:l[i]? with
 |none=>rw[e] at q;simp at q
 |some y=>rw[e] at q;simp only[cV];rw[kg];exact h _ _ q
def adz {α w:Type} {enc:α->w} [eO enc] {L:List w} {l:List α} {i q:Int} {k:α->Option Out} {k':α->Option T} (B:L=l.map enc) (z:i=q) (h:∀x,kV E (k x) (k' x)):
  kV E (bB L i λc=>rP enc c k) (bB l q k'):=by
 subst z;exact Zn B h
def adA {α w:Type} {enc:α->w} [eO enc] {L:List w} {l:List α} {i q:Nat} {k:α->Option Out} {k':α->Option T} (B:L=l.map enc) (z:i=q) (h:∀x,kV E (k x) (k' x)):
  kV E (eH L i λc=>rP enc c k) (eH l q k'):=by
 subst z;exact Zo B h
def I_getb {α:Type} {l:List α} {i:Int} {k:α->Option Out} {k':α->Option T} (h:∀x,kV E (k x) (k' x)):kV E (bB l i k) (bB l i k'):=by
 intro x q;unfold bB at q⊢;split at q
 .rename_i w;rw[aB w];cases e:l[i.toNat]? with
  |none=>rw[e] at q;simp at q
  |some y=>rw[e] at q;exact h _ _ q
 .simp at q
def bind_some {α l:Type} {f:Option α} {k:α->Option l} {x:l} (h:Option.bind f k=some x):∃y,f=some y/\k y=some x:=by cases f with
 |none=>simp at h
 |some y=>exact⟨y,rfl,h⟩
def Tn {U:Type} {enc:U->AV} [eO enc] {l:U->Out} {c:Option Out} {f:Option U} {k:U->Option Out} {k':U->Option T} (B:kV l c f) (h:∀y,kV E (k y) (k' y)) (z:∀y,l y=(enc y,[]):=by intro _;rfl):
  kV E (xL c λr=>rP enc r k) (Option.bind f k'):=by
 intro x D;obtain⟨y,q,w⟩:=bind_some D;rw[B _ q,z,QC,kg];exact h _ _ w
def AJ {U V R:Type} (f:Option (U×V)) (k:U->V->Option R):Option R:=f.bind λp=>k p.1 p.2
def dU {U V W R:Type} (f:Option (U×V×W)) (k:U->V->W->Option R):Option R:=f.bind λp=>k p.1 p.2.1 p.2.2
def mH {l q w z R:Type} (f:Option (l×q×w×z)) (k:l->q->w->z->Option R):Option R:=f.bind λp=>k p.1 p.2.1 p.2.2.1 p.2.2.2
def I1 {l q w z B R:Type} (f:Option (l×q×w×z×B)) (k:l->q->w->z->B->Option R):Option R:=f.bind λp=>k p.1 p.2.1 p.2.2.1 p.2.2.2.1 p.2.2.2.2
def Qt {l q w z B D R:Type} (f:Option (l×q×w×z×B×D)) (k:l->q->w->z->B->D->Option R):Option R:=f.bind λp=>k p.1 p.2.1 p.2.2.1 p.2.2.2.1 p.2.2.2.2.1 p.2.2.2.2.2
def mC {U V R:Type} (a:U) (b:V) (k:U->V->Option R):AJ (some (a,b)) k=k a b:=rfl
def bg {U V W R:Type} (a:U) (b:V) (c:W) (k:U->V->W->Option R):dU (some (a,b,c)) k=k a b c:=rfl
def ady {U V:Type} {enc:U->AV} [eO enc] {l:V->List AV} [eO l] {w e z:Nat} {q:U×List V->Out} {c:Option Out} {f:Option (U×List V)} {k:U->List V->Option Out} {k':U->List V->Option T}
  (G:kV q c f) (h:∀y xs,kV E (k y xs) (k' y xs)) (F:∀y,q y=(enc y.1,[(w, .row e z (y.2.map l))]):=by intro _;rfl):
  kV E (GL c w e z λr c2=>rP enc r λy=>rP (List.map l) c2 λxs=>k y xs) (AJ f k'):=by
 intro x H;obtain⟨y,B,D⟩:=bind_some H;rw[G _ B,F,QH,kg,kg];exact h _ _ _ D
end
section
variable {α R:Type}
def eC {l:List α} {i:Nat} {x:α} {xs:List α} (h:l.drop i=x::xs):i<l.length:=by have:=aR List.length h;simp only[gB,bw] at this;omega
theorem mh {l:List α} {i:Nat} (h:l.drop i=[]):l.length<=i:=by have:=aR List.length h;simp only[gB,eS] at this;omega
def cn {l:List α} {i:Nat} {x:α} {xs:List α} (h:l.drop i=x::xs):l[i]? =some x:=by have:=aR (λm=>m[0]?) h;simpa using this
def aJ {l:List α} {i:Nat} {x:α} {xs:List α} (h:l.drop i=x::xs):l.drop (i+1)=xs:=by have:=aR (List.drop 1) h;simpa[List.drop_drop,jU] using this
def aT {l:List α} {i:Nat} {x:α} {xs:List α} (h:l.drop i=x::xs):decide ((i:Int)<(l.length:Int))=true:=by have:=eC h;simp;omega
def bp {l:List α} {i:Nat} (h:l.drop i=[]):decide ((i:Int)<(l.length:Int))=false:=by have:=mh h;simp;omega
def aP {l:List α} {i:Nat} {x:α} {xs:List α} (h:l.drop i=x::xs) (k:α->Option R):bB l (i:Int) k=k x:=iS (cn h) k
def mb {l:List α} {i:Nat} {x:α} {xs:List α} (h:l.drop i=x::xs) (k:α->Option R):eH l (Int.toNat (i:Int)) k=k x:=by rw[aV];exact kZ (cn h) k
def mc {l:List α} {i:Nat} {x:α} {xs:List α} (h:l.drop i=x::xs) (a:Option R):check (0<=(i:Int)/\Int.toNat (i:Int)<l.length) a=a:=
 bU ⟨af,by rw[aV];exact eC h⟩ a
def aQ {l:List α} {i:Nat} {x:α} {xs:List α} (h:l.drop i=x::xs) (q:l.length<=1073741824):wrap .i64 ((i:Int)+1)=((i+1:Nat):Int):=
 bQ (by have:=eC h;omega)
def cH {n m c:Nat} (a:Option R) (h:n<=1073741824) (w:m<=1073741824) (l:c<=1024):check ((n+m) *c<=140737488355328/\n+m<=4611686018427387904) a=a:=by refine bU ⟨?_,af⟩ a;have q:(n+m) *c<=(n+m) *1024:=Az _ l;omega
def Ee {l:List α} {i:Nat} (h:i<=l.length) (a:Option R):check (0<=(i:Int)/\(i:Int)<=((l.length:Nat):Int)) a=a:=bU ⟨af,af⟩ a
def oA {n:Nat} (h:n<=1073741824):wrap .i64 (((n+1:Nat):Int)-1)=(n:Int):=by rw[oz af af];omega
def jm (p:α->Bool):List α->Nat->Int
 |[],_=> -1
 |x::xs,i=>if p x then(i:Int) else jm p xs (i+1)
def ak {α l:Type} (a:α) (k:α->Option l):Option.bind (some a) k=k a:=rfl
theorem cQ {l:List α} {i:Nat} (h:i<l.length) (k:α->Option R):bB l (i:Int) k=k l[i]:=iS (aN h) k
def u9 {l:List α} {i:Nat} (h:i<l.length) (k:α->Option R):eH l i k=k l[i]:=kZ (aN h) k
def AX {l:List α} {i:Nat} (h:i<l.length) (a:Option R):check (0<=(i:Int)/\Int.toNat (i:Int)<l.length) a=a:=
 bU ⟨af,by rw[aV];exact h⟩ a
end
def EN {U:Type} (enc:U->AV):U->Out:=λx=>(enc x,[])
instance {U:Type} {enc:U->AV} [eO enc]:eO (EN enc):=⟨λa b h=>eO.inj _ _ (aR Prod.fst h)⟩
section
variable {T:Type} {E:T->Out}
def Is {x:T}:kV E (some (E x)) (some x):=yB rfl
def Iz {c:Option Out}:kV E c (dec E c):=jK _ _
def Ic {c:Bool} {a b:Option Out} {l q:Option T} (w:kV E a l) (z:kV E b q):kV E (bif c then a else b) (bif c then l else q):=sH rfl w z
def Ig {α q:Type} (enc:α->q) [eO enc] {l:List α} {i:Int} {k:α->Option Out} {k':α->Option T} (h:∀x,kV E (k x) (k' x)):kV E (bB (l.map enc) i λc=>rP enc c k) (bB l i k'):=Zn rfl h
def In {α q:Type} (enc:α->q) [eO enc] {l:List α} {i:Nat} {k:α->Option Out} {k':α->Option T} (h:∀x,kV E (k x) (k' x)):kV E (eH (l.map enc) i λc=>rP enc c k) (eH l i k'):=Zo rfl h
def Ik {U:Type} {enc:U->AV} [eO enc] {c:Option Out} {k:U->Option Out} {k':U->Option T} (h:∀y,kV E (k y) (k' y)):kV E (xL c λr=>rP enc r k) (Option.bind (dec (EN enc) c) k'):=Tn (jK _ _) h
end
def qo {T:Type} {E:T->Out} [eO E] {raw body c:Option Out} {t:Option T} {r:T} (w:t=some r) (l:kV E raw t) (q:body=raw) (h:∀{r:Out},body=some r->c=some r):dec E c=some r:=
 xN (h (q.trans (l _ w)))
class HG (K:ux):Prop where
 is:∀a b:K.T,∃(inst:Decidable (a=b)),wL (K.enc a) (K.enc b)=some (decide (a=b))
section
variable {R:Type}
noncomputable def Bl {K V:Type} (l:List (K×V)) (key:K):Option Nat:=open Classical in l.findIdx? λp=>decide (key=p.1)
noncomputable def zo {K V:Type} (l:List (K×V)) (key:K) (v:V):List (K×V):=match Bl l key with
 |some i=>l.set i (key,v)
 |none=>l++[(key,v)]
noncomputable def getM {K V:Type} (l:List (K×V)) (key:K):Option V:=(Bl l key).bind λi=>(l[i]?).map (·.2)
noncomputable def wM {K V:Type} (l:List (K×V)) (key:K) (k:V->Option R) (z:Option R):Option R:=match getM l key with
 |some v=>k v
 |none=>z
def Ah {α:Type} (x:α) (k:α->Option R):Option R:=k x
end
def MD {K:ux} [HG K] {V:Type} (key:K.T):∀l:List (K.T×V),qp (K.enc key) (l.map λp=>K.enc p.1)=some (Bl l key):=by intro l;induction l with
 |nil=>rfl
 |cons p l q=>
  obtain⟨inst,h⟩:=HG.is (K:=K) key p.1;rw[bu,qp,h];unfold Bl;rw[uD];by_cases e:key=p.1
  .simp[e]
  .have:decide (key=p.1)=false:=by simpa using e
   rw[this];simp only[q,cV,e,uE,dB,eF];rfl
def W6 {K V:Type} {l:List (K×V)} {key:K} {i:Nat} (h:Bl l key=some i):∃q:i<l.length,(l[i]'q).1=key:=by unfold Bl at h;rw[yI] at h;obtain⟨q,w,_⟩:=h;simp only[je] at w;exact⟨q,w.symm⟩
def za {K V:ux} [eO K.enc] [eO V.enc]:∀{a b:List (K.T×V.T)},(ey K V a).1=(ey K V b).1->(ey K V a).2=(ey K V b).2->a=b:=by intro a;induction a with
 |nil=>intro b h _;cases b with
  |nil=>rfl
  |cons x b=>simp[ey] at h
 |cons x a w=>intro b h l;cases b with
  |nil=>simp[ey] at h
  |cons y b=>simp only[ey,bu,cg] at h l;obtain⟨z,B⟩:=x;obtain⟨D,F⟩:=y;have e1:z=D:=eO.inj _ _ h.1;have q:B=F:=eO.inj _ _ l.1;rw[e1,q,w h.2 l.2]
instance {K V:ux} [eO K.enc] [eO V.enc]:eO (ey K V):=⟨λa b h=>za (aR Prod.fst h) (aR Prod.snd h)⟩
instance {K:ux} {E:FC} [eO K.enc] [eO E.enc]:eO (Jl K E):=⟨λa b=>by
 induction a generalizing b with
 |nil=>intro h;cases b with
  |nil=>rfl
  |cons y b=>simp[Jl] at h
 |cons x a G=>intro h;cases b with
  |nil=>simp[Jl] at h
  |cons y b=>
   simp only[Jl,bu,bD,cg] at h;obtain⟨⟨B,D⟩,l,F⟩:=h;obtain⟨H,q⟩:=x;obtain⟨I,w⟩:=y;have z:q=w:=by
    cases q<;>cases w<;>simp only[cV,Aw,aM,reduceCtorEq] at l
    .rfl
    .rw[map_inj eO.inj _ _ l]
   have e1:H=I:=eO.inj _ _ B
   rw[e1,z,G b (by simp only[Jl];rw[D,F])]⟩
def ab2 {K V:ux} [HG K] (key:K.T) (l:List (K.T×V.T)):UP (K.enc key) (ey K V l).1 (ey K V l).2=some ((getM l key).map V.enc):=by unfold UP ey getM;rw[MD];cases h:Bl l key with
 |none=>rfl
 |some i=>obtain⟨q,_⟩:=W6 h;simp[aN q]
def SN {K V:ux} {l:List (K.T×V.T)} {key:K.T} {v:V.T} {i:Nat} (h:Bl l key=some i):ey K V (l.set i (key,v))=((ey K V l).1,(ey K V l).2.set i (V.enc v)):=by
 obtain⟨B,e⟩:=W6 h;unfold ey;rw[bD];constructor
 .rw[pY];apply nH
  .simp
  .intro j w z;rw[List.getElem_set];split
   .rename_i q;subst q;simp[e]
   .rfl
 .rw[pY]
def ab6 {K V:ux} [HG K] (key:K.T) (v:V.T) (l:List (K.T×V.T)):Ds (K.enc key) (V.enc v) (ey K V l).1 (ey K V l).2=some (ey K V (zo l key v)):=by have q:qp (K.enc key) (ey K V l).1=some (Bl l key):=MD key l;unfold Ds zo;rw[q];cases h:Bl l key with
 |none=>simp[ey]
 |some i=>simp only[SN h]
section
variable {T:Type} {E:T->Out}
def I_look {K V:ux} [HG K] [eO V.enc] {l:List (K.T×V.T)} {key:K.T} {k:V.T->Option Out} {k':V.T->Option T} {z:Option Out} {w:Option T} (h:∀y,kV E (k y) (k' y)) (B:kV E z w):
  kV E (MA (UP (K.enc key) (ey K V l).1 (ey K V l).2) (λv=>rP V.enc v k) z) (wM l key k' w):=by
 intro x q;unfold wM at q;unfold MA;rw[ab2];cases e:getM l key with
 |none=>rw[e] at q;exact B _ q
 |some v=>rw[e] at q;simp only[cV];rw[kg];exact h _ _ q
def I_put {K V:ux} [HG K] [eO K.enc] [eO V.enc] {l:List (K.T×V.T)} {key:K.T} {a:AV} {v:V.T} {k:List (K.T×V.T)->Option Out} {k':List (K.T×V.T)->Option T} (q:a=V.enc v) (h:∀m,kV E (k m) (k' m)):
  kV E (Vb (Ds (K.enc key) a (ey K V l).1 (ey K V l).2) λp=>rP (ey K V) p k) (Ah (zo l key v) k'):=by
 subst q;intro x w;unfold Vb;rw[ab6];simp only[kg];exact h _ _ w
def kj {A:Type} (enc:A->List AV) (k:Nat):A->List AV:=λx=>(enc x).set k .hole
abbrev oM {V:Type} (enc:V->List AV):List (Option (List V))->List (Option (List (List AV))):=List.map (Option.map (List.map enc))
instance {V:Type} (enc:V->List AV) [eO enc]:eO (oM enc):=⟨λa b h=>by
 refine map_inj (λx y e=> ?_) _ _ h;cases x<;>cases y<;>simp at e⊢
 exact map_inj eO.inj _ _ e⟩
instance {V:Type} (enc:V->List AV) [eO enc]:eO (List.map (Option.map (List.map enc))):=inferInstanceAs (eO (oM enc))
def U5 {R V:Type} (l:List (Option (List V))) (i:Nat) (k:List V->List (Option (List V))->Option R):Option R:=match l[i]? with
 |some (some q)=>k q (l.set i none)
 |_=>none
def ur {l A V:Type} (qB:l->List V->A):List l->List (Option (List V))->Option (List A)
 |[],[]=>some []
 |x::xs,some y::q=>(ur qB xs q).map (qB x y:: ·)
 |_,_=>none
def wh {R q A V:Type} (qB:q->List V->A) (xs:List q) (w:List (Option (List V))) (k:List A->Option R):Option R:=match ur qB xs w with
 |some l=>k l
 |none=>none
def I_out {V:Type} {enc:V->List AV} [eO enc] {Y:List (Option (List V))} {i:Nat} {k:List V->List (Option (List V))->Option Out} {k':List V->List (Option (List V))->Option T} (h:∀l y,kV E (k l y) (k' l y)):
  kV E (YL (oM enc Y) i λc=>rP (List.map enc) c λl=>rP (oM enc) ((oM enc Y).set i none) λy=>k l y) (U5 Y i k'):=by
 intro x q;unfold U5 at q;split at q
 .rename_i l z;have e1:(oM enc Y)[i]? =some (some (l.map enc)):=by simp[z]
  have w:(oM enc Y).set i none=oM enc (Y.set i none):=by rw[oM,pY];rfl
  unfold YL;rw[e1];simp only;rw[kg,w,kg];exact h _ _ _ q
 .cases q
def Zp {V:Type} {enc:V->List AV} [eO enc] {Y:List (Option (List V))} {i:Nat} {L:List (List AV)} {l:List V} {k:List (Option (List V))->Option Out} {k':List (Option (List V))->Option T} (w:L=l.map enc) (h:∀y,kV E (k y) (k' y)):
  kV E (check (i<(oM enc Y).length) (rP (oM enc) ((oM enc Y).set i (some L)) k)) (check (i<Y.length) (Ah (Y.set i (some l)) k')):=by
 subst w;refine kG ai ?_;have q:(oM enc Y).set i (some (l.map enc))=oM enc (Y.set i (some l)):=by rw[oM,pY];rfl
 rw[q,kg];exact h _
def L6 {B A V:Type} {w:B->List AV} {enc:A->List AV} {q:V->List AV} {qB:B->List V->A} {k s:Nat} (H:∀x z,(w x).set k (.dy s (z.map q))=enc (qB x z)):∀{xs:List B} {F:List (Option (List V))} {l:List A},ur qB xs F=some l->
  ∃c,oI (oM q F)=some c/\vZ k s (xs.map w) c=l.map enc
 |[],[],l,h=>by simp only[ur,aM] at h;subst h;exact⟨[],rfl,rfl⟩
 |x::xs,some y::F,l,h=>by
  simp only[ur,cv] at h;obtain⟨K,D,rfl⟩:=h;obtain⟨c,G,I⟩:=L6 H D;refine⟨y.map q::c,?_,?_⟩
  .simp only[oM,bu,cV,oI] at G⊢;rw[G];rfl
  .simp only[bu,vZ,H,I]
 |[],_::_,l,h=>by simp[ur] at h
 |_::_,[],l,h=>by simp[ur] at h
 |_::_,none::_,l,h=>by simp[ur] at h
def Ap {w A V:Type} {Cq:w->List AV} {enc:A->List AV} [eO enc] {xO:V->List AV} {qB:w->List V->A} {q s:Nat} {xs:List w} {B:List (Option (List V))} {k:List A->Option Out} {k':List A->Option T} (h:∀m,kV E (k m) (k' m))
  (H:∀x z,(Cq x).set q (.dy s (z.map xO))=enc (qB x z):=by intro _ _;rfl):
  kV E (Qn (oI (oM xO B)) λc=>rP (List.map enc) (vZ q s (xs.map Cq) c) k) (wh qB xs B k'):=by
 intro x l;unfold wh at l;split at l
 .rename_i m G;obtain⟨c,D,F⟩:=L6 H G;unfold Qn;rw[D];simp only;rw[F,kg];exact h _ _ l
 .cases l
def IT {A V:Type} {q:A->List AV} {qB:A->List V->A} {sub:A->List V} (D:∀x z,q (qB x z)=q x) (F:∀x z,sub (qB x z)=z):∀{xs:List A} {B:List (Option (List V))} {l:List A},ur qB xs B=some l->
  xs.map q=l.map q/\B=l.map λx=>some (sub x)
 |[],[],l,h=>by simp only[ur,aM] at h;subst h;exact⟨rfl,rfl⟩
 |x::xs,some y::B,l,h=>by simp only[ur,cv] at h;obtain⟨I,w,rfl⟩:=h;obtain⟨G,H⟩:=IT D F w;simp only[bu,D,F,G,<-H,and_self]
 |[],_::_,l,h=>by simp[ur] at h
 |_::_,[],l,h=>by simp[ur] at h
 |_::_,none::_,l,h=>by simp[ur] at h
def I_endN {A V:Type} {Cq:A->List AV} {xO:V->List AV} {qB:A->List V->A} (sub:A->List V) {xs:List A} {w:List (Option (List V))} {F:List (List AV)->List (Option (List (List AV)))->Out} {k':List A->Option T}
  (h:∀l:List A,kV E (some (F (l.map Cq) (oM xO (l.map λx=>some (sub x))))) (k' l)) (G:∀x z,Cq (qB x z)=Cq x:=by intro _ _;rfl) (I:∀x z,sub (qB x z)=z:=by intro _ _;rfl):
  kV E (some (F (xs.map Cq) (oM xO w))) (wh qB xs w k'):=by
 intro x q;unfold wh at q;split at q
 .rename_i m H;obtain⟨B,D⟩:=IT G I H;rw[B,D];exact h _ _ q
 .cases q
def Vk {A V:Type} {l:A->List AV} {xO:V->List AV} [eO xO] {sub:A->List V} (q:∀a b,l a=l b->sub a=sub b->a=b):∀{x y:List A},x.map l=y.map l->oM xO (x.map λa=>some (sub a))=oM xO (y.map λa=>some (sub a))->x=y
 |[],[],_,_=>rfl
 |[],_::_,h,_=>by simp at h
 |_::_,[],h,_=>by simp at h
 |a::x,b::y,h,k=>by simp only[bu,cg] at h;have k:=eO.inj _ _ k;simp only[bu,cg,aM] at k;rw[q a b h.1 k.1,Vk (xO:=xO) q h.2 (by rw[k.2])]
def IgX {A:Type} {iX enc:A->List AV} (l:iX=enc) [eO enc] {xs:List A} {i:Int} {k:A->Option Out} {k':A->Option T} (h:∀x,kV E (k x) (k' x)):kV E (bB (List.map iX xs) i λc=>rP enc c k) (bB xs i k'):=by subst l;exact Ig _ h
def Zm {V:Type} {enc:V->List AV} [eO enc] {Y Z:List (Option (List V))} {k:List (Option (List V))->Option Out} {k':List (Option (List V))->Option T} (h:∀y,kV E (k y) (k' y)):
  kV E (rP (oM enc) (oM enc Y++oM enc Z) k) (Ah (Y++Z) k'):=by
 have e:oM enc Y++oM enc Z=oM enc (Y++Z):=by rw[oM,bZ]
 rw[e,kg];exact h _
def VI {U:Type} {l:U->Out} {c:Option Out} {f:Option U} {q:AV->List (Nat×Ob)->Option Out} {k':U->Option T} (B:kV l c f) (h:∀y,kV E (q (l y).1 (l y).2) (k' y)):kV E (zV c q) (Option.bind f k'):=by intro x D;obtain⟨y,w,z⟩:=bind_some D;rw[B _ w];unfold zV;exact h _ _ z
def xJ {U:Type} {l:U->Out} [eO l] {c:Option Out} {f:Option U} {k:U->Option Out} {k':U->Option T} (z:kV l c f) (h:∀y,kV E (k y) (k' y)):kV E (LG l c k) (Option.bind f k'):=by intro x B;obtain⟨y,q,w⟩:=bind_some B;rw[z _ q];unfold LG;simp only[];rw[kg];exact h _ _ w
noncomputable abbrev genK2 {U V R:Type} (l:U×V->Out) (c:Option Out) (k:U->V->Option R):Option R:=LG l c λp=>k p.1 p.2
noncomputable abbrev genK3 {U V W R:Type} (l:U×V×W->Out) (c:Option Out) (k:U->V->W->Option R):Option R:=LG l c λp=>k p.1 p.2.1 p.2.2
noncomputable abbrev genK4 {l q w z R:Type} (B:l×q×w×z->Out) (c:Option Out) (k:l->q->w->z->Option R):Option R:=LG B c λp=>k p.1 p.2.1 p.2.2.1 p.2.2.2
def FG {U V:Type} {l:U×V->Out} [eO l] {c:Option Out} {f:Option (U×V)} {k:U->V->Option Out} {k':U->V->Option T} (q:kV l c f) (h:∀y v,kV E (k y v) (k' y v)):kV E (genK2 l c k) (AJ f k'):=
 xJ q λp=>h p.1 p.2
def Aq {U V W:Type} {l:U×V×W->Out} [eO l] {c:Option Out} {f:Option (U×V×W)} {k:U->V->W->Option Out} {k':U->V->W->Option T} (q:kV l c f) (h:∀y v w,kV E (k y v w) (k' y v w)):kV E (genK3 l c k) (dU f k'):=
 xJ q λp=>h p.1 p.2.1 p.2.2
def Tp {l q z B:Type} {D:l×q×z×B->Out} [eO D] {c:Option Out} {f:Option (l×q×z×B)} {k:l->q->z->B->Option Out} {k':l->q->z->B->Option T} (F:kV D c f) (h:∀y v w x,kV E (k y v w x) (k' y v w x)):kV E (genK4 D c k) (mH f k'):=
 xJ F λp=>h p.1 p.2.1 p.2.2.1 p.2.2.2
noncomputable abbrev genK5 {l q w z B R:Type} (D:l×q×w×z×B->Out) (c:Option Out) (k:l->q->w->z->B->Option R):Option R:=LG D c λp=>k p.1 p.2.1 p.2.2.1 p.2.2.2.1 p.2.2.2.2
def I_gen5 {l q w z B:Type} {D:l×q×w×z×B->Out} [eO D] {c:Option Out} {f:Option (l×q×w×z×B)} {k:l->q->w->z->B->Option Out} {k':l->q->w->z->B->Option T} (F:kV D c f) (h:∀a b c d e,kV E (k a b c d e) (k' a b c d e)):kV E (genK5 D c k) (I1 f k'):=
 xJ F λp=>h p.1 p.2.1 p.2.2.1 p.2.2.2.1 p.2.2.2.2
def I_callM3 {U V W:Type} {l:U×V×W->Out} {c:Option Out} {f:Option (U×V×W)} {q:AV->List (Nat×Ob)->Option Out} {k':U->V->W->Option T} (z:kV l c f) (h:∀y v w,kV E (q (l (y,v,w)).1 (l (y,v,w)).2) (k' y v w)):kV E (zV c q) (dU f k'):=
 VI z λp=>h p.1 p.2.1 p.2.2
def I_uncons {q:Nat} {o:Ob} {l:List (Nat×Ob)} {k:Ob->List (Nat×Ob)->Option Out} {t:Option T} (h:kV E (k o l) t):kV E (qH q ((q,o)::l) k) t:=by
 have:qH q ((q,o)::l) k=k o l:=by unfold qH;simp only[gz,aj]
 rw[this];exact h
def I_asMap {K V:ux} [eO K.enc] [eO V.enc] {w q:Nat} {l:List (K.T×V.T)} {k:List (K.T×V.T)->Option Out} {t:Option T} (h:kV E (k l) t):kV E (GJ w q (.mp w q (ey K V l).1 (ey K V l).2) λc=>rP (ey K V) c k) t:=by
 have:(GJ w q (.mp w q (ey K V l).1 (ey K V l).2) λc=>rP (ey K V) c k)=rP (ey K V) (ey K V l) k:=by unfold GJ;simp only[gz,jH,aj]
 rw[this,kg];exact h
def I_asLast {α:Type} {enc:α->List AV} [eO enc] {t:TypeId} {pre:List SV} {l:Nat} {x:List α} {k:List α->Option Out} {q:Option T} (h:kV E (k x) q):kV E (AH t pre l (.box t (pre++[.pv (.dy l (List.map enc x))])) λc=>rP (List.map enc) c k) q:=by
 have:(AH t pre l (.box t (pre++[.pv (.dy l (List.map enc x))])) λc=>rP (List.map enc) c k)=rP (List.map enc) (List.map enc x) k:=by
  unfold AH;have key:∀w:List (List AV),Ob.box t (pre++[.pv (.dy l (List.map enc x))])= .box t (pre++[.pv (.dy l w)])->List.map enc x=w:=by intro w e;simp only[Ob.box.injEq,cR] at e;have e:=List.append_cancel_left e;simpa only[cg,SV.pv.injEq,AV.dy.injEq,cR,c9] using e
  have h:∃xs,Ob.box t (pre++[.pv (.dy l (List.map enc x))])= .box t (pre++[.pv (.dy l xs)]):=⟨_,rfl⟩
  rw[iG h];rw[<-key _ h.choose_spec]
 rw[this,kg];exact h
def I_same {o:Ob} {k:Option Out} {t:Option T} (h:kV E k t):kV E (BA o o k) t:=by unfold BA;rw[aB rfl];exact h
def I_nil {k:Option Out} {t:Option T} (h:kV E k t):kV E (Sb [] k) t:=by unfold Sb;exact h
def I_res {U:Type} {enc:U->AV} [eO enc] {y:U} {k:U->Option Out} {t:Option T} (h:kV E (k y) t):kV E (rP enc (enc y) k) t:=by rw[kg];exact h
end
