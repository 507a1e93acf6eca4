/- THE ABSTRACT MACHINE. -/
import Derived.Test.YthphfjcnkinkpaaGreatDoorAmT
set_option linter.all false
open Go.IntKind (wrap)
open Int (toNat)
namespace Go.AM
class fq {T α:Type} (enc:T->α):Prop where
 inj:∀a b,enc a=enc b->a=b
def dW (k:IntKind) (a:Int):List AV:=[.int k a]
def pE (s:List UInt8):List AV:=[.str s]
def Xk (b:Bool):List AV:=[.bool b]
def mF {T:Type} (q:Nat) (enc:T->List AV) (l:List T):List AV:=[.dG q (l.map enc)]
def map_inj {T α:Type} {enc:T->α} (h:∀a b,enc a=enc b->a=b):∀(l m:List T),l.map enc=m.map enc->l=m:=by intro l;induction l with
 |nil=>intro m q;cases m with
  |nil=>rfl
  |cons x m=>simp at q
 |cons x l w=>intro m q;cases m with
  |nil=>simp at q
  |cons y m=>simp only[bS,cV] at q;rw[h _ _ q.1,w _ q.2]
instance {k:IntKind}:fq (dW k):=⟨λa b h=>by simpa[dW] using h⟩
instance:fq pE:=⟨λa b h=>by simpa[pE] using h⟩
instance:fq Xk:=⟨λa b h=>by simpa[Xk] using h⟩
instance {T α:Type} {enc:T->α} [fq enc]:fq (List.map enc):=⟨map_inj fq.inj⟩
instance {T:Type} {sz:Nat} {enc:T->List AV} [fq enc]:fq (mF sz enc):=⟨λa b h=>by
 simp only[mF,cV,AV.dG.injEq,eP,eH] at h
 exact map_inj fq.inj _ _ h⟩
section
variable {R:Type}
def mc {α T:Type} {enc:T->α} [fq enc] (d:T) (k:T->Option R):uE enc (enc d) k=k d:=asE_pos fq.inj d k
def RW (r:AV) (k:AV->Option R):yj (some (r,[])) k=k r:=Y8 rfl k
def R2 (q e w:Nat) (r:AV) (xs:List (List AV)) (k:AV->List (List AV)->Option R):G4 (some (r,[(q, .row e w xs)])) q e w k=k r xs:=Za rfl k
def vk {α:Type} [Inhabited α] {l:List α} {i:Nat} (h:i<l.length) (k:α->Option R):bf l (i:Int) k=k (l.getD i default):=
 gM (by rw[aM h,bA,aM h];rfl) k
def yp {α:Type} [Inhabited α] {l:List α} {i:Int} (q:0<=i) (h:i<l.length) (k:α->Option R):bf l i k=k (l.getD i.toNat default):=by obtain⟨n,rfl⟩:=dM q;exact vk af k
def Xs {α:Type} [Inhabited α] {l:List α} {i:Nat} (h:i<l.length) (k:α->Option R):dO l i k=k (l.getD i default):=
 kW (by rw[aM h,bA,aM h];rfl) k
end
def aae (n:Int):wrap .i64 n=if 9223372036854775808<=n % 18446744073709551616 then n % 18446744073709551616-18446744073709551616 else n % 18446744073709551616:=by show(if(true&&decide (n % 18446744073709551616>=9223372036854775808))=true then n % 18446744073709551616-18446744073709551616 else n % 18446744073709551616)=_;simp only[iF,p6,ge_iff_le]
theorem oE {n:Int} (q: -9223372036854775808<=n) (w:n<=9223372036854775807):wrap .i64 n=n:=by rw[aae];split<;>omega
def W4 (n:Int):wrap .u64 n=n % 18446744073709551616:=by show(if(false&&decide (n % 18446744073709551616>=9223372036854775808))=true then n % 18446744073709551616-18446744073709551616 else n % 18446744073709551616)=_;simp
theorem As {n:Int} (q:0<=n) (w:n<=18446744073709551615):wrap .u64 n=n:=by rw[W4];omega
def bM {i:Nat} (h:i<4611686018427387904):wrap .i64 ((i:Int)+1)=((i+1:Nat):Int):=by rw[oE af af];omega
def cond_pos {α:Type} {b:Bool} (h:b=true) (x y:α):cond b x y=x:=by subst h;rfl
def cond_neg {α:Type} {b:Bool} (h:b=false) (x y:α):cond b x y=y:=by subst h;rfl
end Go.AM
namespace Go.AM
def Cm (a:List UInt8):Op.bytesLess a a=false:=by induction a with
 |nil=>rfl
 |cons x a q=>simp[Op.bytesLess,q]
theorem Bl:∀(a b:List UInt8),Op.bytesLess a b=false->a≠b->Op.bytesLess b a=true:=by intro a;induction a with
 |nil=>intro b h q;cases b with
  |nil=>exact absurd rfl q
  |cons y b=>simp[Op.bytesLess] at h
 |cons x a B=>intro b h q;cases b with
  |nil=>rfl
  |cons y b=>
   simp only[Op.bytesLess,gi,aQ,Bool.and_eq_false_iff] at h;simp only[Op.bytesLess,gE,p6,aV,ja];by_cases e:x=y
   .subst e;refine .inr ⟨rfl,B b (h.2.resolve_left ai) λe=>q (by rw[e])⟩
   .refine .inl ?_;have z:=h.1;simp only[D3] at z⊢
    have:x.toNat≠y.toNat:=λw=>e (UInt8.toNat.inj w)
    omega
theorem vK:∀(a b c:List UInt8),Op.bytesLess a b=true->Op.bytesLess b c=true->Op.bytesLess a c=true:=by intro a;induction a with
 |nil=>intro b c w q;cases c with
  |nil=>simp[Op.bytesLess] at q
  |cons z c=>rfl
 |cons x a B=>intro b c w q;cases b with
  |nil=>simp[Op.bytesLess] at w
  |cons y b=>cases c with
   |nil=>simp[Op.bytesLess] at q
   |cons z c=>
    simp only[Op.bytesLess,gE,p6,aV,ja,D3] at w q⊢;rcases w with w|⟨rfl,w⟩
    .rcases q with q|⟨rfl,q⟩
     .exact .inl af
     .exact .inl w
    .rcases q with q|⟨rfl,q⟩
     .exact .inl q
     .exact .inr ⟨rfl,B b c w q⟩
theorem Bk {a b:List UInt8} (h:Op.bytesLess a b=true):Op.bytesLess b a=false:=by cases e:Op.bytesLess b a with
 |false=>rfl
 |true=>have:=vK _ _ _ h e;rw[Cm] at this;cases this
section
variable {α:Type} (lt:α->α->Bool)
def sn (x:α):List α->List α
 |[]=>[x]
 |y::l=>if lt x y=true then x::y::l else y::sn x l
def mO (l:List α):Prop:=l.Pairwise λa b=>lt b a=false
def Vz {x:α} {p q:List α} (w:∀y∈p,lt x y=false) (B:∀y∈q,lt x y=true):sn lt x (p++q)=p++x::q:=by induction p with
 |nil=>cases q with
  |nil=>rfl
  |cons y q=>simp only[dQ,sn];rw[aB (B y (gz ..))]
 |cons y p F=>simp only[gC,sn];rw[az (by simp[w y (gz ..)]),F λz D=>w z (dB _ D)]
def SU {x y:α}:∀{l:List α},y∈sn lt x l↔y=x\/y∈l:=by intro l;induction l with
 |nil=>simp[sn]
 |cons z l q=>
  simp only[sn];split
  .simp
  .simp only[aS,q];constructor
   .rintro (h|h|h)<;>simp[h]
   .rintro (h|h|h)<;>simp[h]
def SR {x:α}:∀{l:List α},(sn lt x l).length=l.length+1:=by intro l;induction l with
 |nil=>rfl
 |cons y l q=>simp only[sn];split<;>simp[q]
def BF (q:∀a b,lt a b=true->lt b a=false) (up:∀x y z,lt x y=true->lt z y=false->lt x z=true) {x:α}:∀{l:List α},mO lt l->mO lt (sn lt x l):=by intro l;induction l with
 |nil=>intro _;simp[sn,mO]
 |cons y l D=>
  intro B;simp only[mO,dU] at B;simp only[sn];split
  .rename_i h;simp only[mO,dU,aS];refine⟨λz w=> ?_,B⟩;rcases w with rfl|w
   .exact q _ _ h
   .exact q _ _ (up _ _ _ h (B.1 z w))
  .rename_i h;simp only[mO,dU];refine⟨λz w=> ?_,D B.2⟩;rcases(SU lt).1 w with rfl|w
   .simpa using h
   .exact B.1 z w
def tR (l:List α):List α:=l.foldl (λout x=>sn lt x out) []
end
end Go.AM
namespace Go.AM
abbrev Out:Type:=AV×List (Nat×Ob)
noncomputable def dec {T:Type} (E:T->Out) (c:Option Out):Option T:=
 match c with
 |some r=>open Classical in if h:∃x,E x=r then some h.choose else none
 |none=>none
def ng {T:Type} (E:T->Out) (c:Option Out) (t:Option T):Prop:=∀x,t=some x->c=some (E x)
def jM {T:Type} (E:T->Out) (c:Option Out):ng E c (dec E c):=by intro x q;cases c with
 |none=>simp[dec] at q
 |some r=>
  simp only[dec] at q;split at q
  .grind
  simp_all
def ym {T:Type} {E:T->Out} [fq E] {c:Option Out} {x:T} (h:c=some (E x)):dec E c=some x:=by
 subst h;have q:∃y,E y=E x:=⟨x,rfl⟩
 simp[dec,kB q];rw[fq.inj _ _ q.choose_spec]
section
variable {T:Type} {E:T->Out}
def xI {c:Out} {x:T} (h:c=E x):ng E (some c) (some x):=by intro y q;simp_all
def uq {c c':Bool} {a b:Option Out} {q w:Option T} (D:c=c') (z:ng E a q) (B:ng E b w):ng E (bif c then a else b) (bif c' then q else w):=by grind
def R5 {R:Type} {p:Prop} [Decidable p] {a:Option R} {x:R} (h:check p a=some x):p/\a=some x:=by simp_all[check]
def nW {R:Type} {p:Prop} [Decidable p] {a:Option R} (h:p):check p a=a:=by unfold check;simp_all
def jD {p q:Prop} [Decidable p] [Decidable q] {a:Option Out} {w:Option T} (z:q->p) (h:ng E a w):ng E (check p a) (check q w):=by intro x B;have:=R5 B;rw[nW (z this.1)];exact h _ this.2
def aax {α β:Type} {enc:α->β} [fq enc] {L:List β} {l:List α} {i:Int} {k:α->Option Out} {k':α->Option T} (z:L=l.map enc) (h:∀x,ng E (k x) (k' x)):
  ng E (bf L i λc=>uE enc c k) (bf l i k'):=by
 subst z;intro x q;unfold bf at q⊢;split at q
 .rename_i w;rw[dK];cases e:l[i.toNat]? with
  |none=>simp_all
  |some y=>rw[e] at q;simp[ff,aB w];rw[mc];exact h _ _ q
 simp_all
def aay {α β:Type} {enc:α->β} [fq enc] {L:List β} {l:List α} {i:Nat} {k:α->Option Out} {k':α->Option T} (w:L=l.map enc) (h:∀x,ng E (k x) (k' x)):
  ng E (dO L i λc=>uE enc c k) (dO l i k'):=by
 subst w;intro x q;unfold dO at q⊢;rw[dK];cases e:l[i]? with
 |none=>simp_all
 |some y=>rw[e] at q;simp;rw[mc];exact h _ _ q
def I_getKx {α β:Type} {enc:α->β} [fq enc] {L:List β} {l:List α} {i q:Int} {k:α->Option Out} {k':α->Option T} (z:L=l.map enc) (w:i=q) (h:∀x,ng E (k x) (k' x)):
  ng E (bf L i λc=>uE enc c k) (bf l q k'):=by
 subst w;exact aax z h
def I_getNx {α β:Type} {enc:α->β} [fq enc] {L:List β} {l:List α} {i q:Nat} {k:α->Option Out} {k':α->Option T} (z:L=l.map enc) (w:i=q) (h:∀x,ng E (k x) (k' x)):
  ng E (dO L i λc=>uE enc c k) (dO l q k'):=by
 subst w;exact aay z h
def I_getb {α:Type} {l:List α} {i:Int} {k:α->Option Out} {k':α->Option T} (h:∀x,ng E (k x) (k' x)):ng E (bf l i k) (bf l i k'):=by
 intro x q;unfold bf at q⊢;split at q
 .rename_i w;rw[aB w];cases e:l[i.toNat]? with
  |none=>simp_all
  |some y=>rw[e] at q;exact h _ _ q
 simp_all
def bind_some {α β:Type} {f:Option α} {k:α->Option β} {x:β} (h:Option.bind f k=some x):∃y,f=some y/\k y=some x:=by cases f with
 |none=>simp at h
 |some y=>simp_all
def UD {U:Type} {enc:U->AV} [fq enc] {q:U->Out} {c:Option Out} {f:Option U} {k:U->Option Out} {k':U->Option T} (D:ng q c f) (h:∀y,ng E (k y) (k' y)) (B:∀y,q y=(enc y,[]):=by intro _;rfl):
  ng E (yj c λr=>uE enc r k) (Option.bind f k'):=by
 intro x F;obtain⟨y,w,z⟩:=bind_some F;rw[D _ w,B,RW,mc];exact h _ _ z
def qs {U V R:Type} (f:Option (U×V)) (k:U->V->Option R):Option R:=f.bind λp=>k p.1 p.2
def eM {U V W R:Type} (f:Option (U×V×W)) (k:U->V->W->Option R):Option R:=f.bind λp=>k p.1 p.2.1 p.2.2
def mJ {q w z B R:Type} (f:Option (q×w×z×B)) (k:q->w->z->B->Option R):Option R:=f.bind λp=>k p.1 p.2.1 p.2.2.1 p.2.2.2
def Js {q w z B D R:Type} (f:Option (q×w×z×B×D)) (k:q->w->z->B->D->Option R):Option R:=f.bind λp=>k p.1 p.2.1 p.2.2.1 p.2.2.2.1 p.2.2.2.2
def RN {q w z B D F R:Type} (f:Option (q×w×z×B×D×F)) (k:q->w->z->B->D->F->Option R):Option R:=f.bind λp=>k p.1 p.2.1 p.2.2.1 p.2.2.2.1 p.2.2.2.2.1 p.2.2.2.2.2
def j9 {U V R:Type} (a:U) (b:V) (k:U->V->Option R):qs (some (a,b)) k=k a b:=rfl
def bG {U V W R:Type} (a:U) (b:V) (c:W) (k:U->V->W->Option R):eM (some (a,b,c)) k=k a b c:=rfl
def I_callR {U V:Type} {enc:U->AV} [fq enc] {q:V->List AV} [fq q] {z e B:Nat} {w:U×List V->Out} {c:Option Out} {f:Option (U×List V)} {k:U->List V->Option Out} {k':U->List V->Option T}
  (H:ng w c f) (h:∀y xs,ng E (k y xs) (k' y xs)) (G:∀y,w y=(enc y.1,[(z, .row e B (y.2.map q))]):=by intro _;rfl):
  ng E (G4 c z e B λr c2=>uE enc r λy=>uE (List.map q) c2 λxs=>k y xs) (qs f k'):=by
 intro x I;obtain⟨y,D,F⟩:=bind_some I;rw[H _ D,G,R2,mc,mc];exact h _ _ _ F
end
section
variable {α R:Type}
def dN {l:List α} {i:Nat} {x:α} {xs:List α} (h:l.drop i=x::xs):i<l.length:=by have:=aU List.length h;grind
def kJ {l:List α} {i:Nat} (h:l.drop i=[]):l.length<=i:=by simp_all
def bV {l:List α} {i:Nat} {x:α} {xs:List α} (h:l.drop i=x::xs):l[i]? =some x:=by have:=aU (λm=>m[0]?) h;grind
def aH {l:List α} {i:Nat} {x:α} {xs:List α} (h:l.drop i=x::xs):l.drop (i+1)=xs:=by have:=aU (List.drop 1) h;grind[List.drop_drop]
def aP {l:List α} {i:Nat} {x:α} {xs:List α} (h:l.drop i=x::xs):decide ((i:Int)<(l.length:Int))=true:=by have:=dN h;simp_all
theorem aW {l:List α} {i:Nat} (h:l.drop i=[]):decide ((i:Int)<(l.length:Int))=false:=by simp_all
def aJ {l:List α} {i:Nat} {x:α} {xs:List α} (h:l.drop i=x::xs) (k:α->Option R):bf l (i:Int) k=k x:=gM (bV h) k
def me {l:List α} {i:Nat} {x:α} {xs:List α} (h:l.drop i=x::xs) (k:α->Option R):dO l (toNat (i:Int)) k=k x:=by exact kW (bV h) k
def mh {l:List α} {i:Nat} {x:α} {xs:List α} (h:l.drop i=x::xs) (a:Option R):check (0<=(i:Int)/\toNat (i:Int)<l.length) a=a:=
 bT ⟨af,by exact dN h⟩ a
def aN {l:List α} {i:Nat} {x:α} {xs:List α} (h:l.drop i=x::xs) (q:l.length<=1073741824):wrap .i64 ((i:Int)+1)=((i+1:Nat):Int):=
 bM (by have:=dN h;omega)
def cC {n m c:Nat} (a:Option R) (h:n<=1073741824) (z:m<=1073741824) (q:c<=1024):check ((n+m) *c<=140737488355328/\n+m<=4611686018427387904) a=a:=by refine bT ⟨?_,af⟩ a;have w:(n+m) *c<=(n+m) *1024:=Bc _ q;omega
def Ep {l:List α} {i:Nat} (h:i<=l.length) (a:Option R):check (0<=(i:Int)/\(i:Int)<=((l.length:Nat):Int)) a=a:=bT ⟨af,af⟩ a
theorem oF {n:Nat} (h:n<=1073741824):wrap .i64 (((n+1:Nat):Int)-1)=(n:Int):=by grind[oE]
def jf (p:α->Bool):List α->Nat->Int
 |[],_=> -1
 |x::xs,i=>if p x then(i:Int) else jf p xs (i+1)
theorem aj {α β:Type} (a:α) (k:α->Option β):Option.bind (some a) k=k a:=rfl
def bU {l:List α} {i:Nat} (h:i<l.length) (k:α->Option R):bf l (i:Int) k=k l[i]:=gM (aM h) k
def oL {l:List α} {i:Nat} (h:i<l.length) (k:α->Option R):dO l i k=k l[i]:=kW (aM h) k
def Bv {l:List α} {i:Nat} (h:i<l.length) (a:Option R):check (0<=(i:Int)/\toNat (i:Int)<l.length) a=a:=
 bT ⟨af,af⟩ a
end
def EN {U:Type} (enc:U->AV):U->Out:=λx=>(enc x,[])
instance {U:Type} {enc:U->AV} [fq enc]:fq (EN enc):=⟨λa b h=>fq.inj _ _ (aU Prod.fst h)⟩
section
variable {T:Type} {E:T->Out}
def Is {x:T}:ng E (some (E x)) (some x):=xI rfl
def Iz {c:Option Out}:ng E c (dec E c):=jM _ _
def Ic {c:Bool} {a b:Option Out} {q w:Option T} (z:ng E a q) (B:ng E b w):ng E (bif c then a else b) (bif c then q else w):=uq rfl z B
def Ig {α β:Type} (enc:α->β) [fq enc] {l:List α} {i:Int} {k:α->Option Out} {k':α->Option T} (h:∀x,ng E (k x) (k' x)):ng E (bf (l.map enc) i λc=>uE enc c k) (bf l i k'):=aax rfl h
def In {α β:Type} (enc:α->β) [fq enc] {l:List α} {i:Nat} {k:α->Option Out} {k':α->Option T} (h:∀x,ng E (k x) (k' x)):ng E (dO (l.map enc) i λc=>uE enc c k) (dO l i k'):=aay rfl h
def Ik {U:Type} {enc:U->AV} [fq enc] {c:Option Out} {k:U->Option Out} {k':U->Option T} (h:∀y,ng E (k y) (k' y)):ng E (yj c λr=>uE enc r k) (Option.bind (dec (EN enc) c) k'):=UD (jM _ _) h
end
def rA {T:Type} {E:T->Out} [fq E] {raw body c:Option Out} {t:Option T} {r:T} (z:t=some r) (q:ng E raw t) (w:body=raw) (h:∀{r:Out},body=some r->c=some r):dec E c=some r:=
 ym (h (w.trans (q _ z)))
class HW (K:xH):Prop where
 is:∀a b:K.T,∃(inst:Decidable (a=b)),xb (K.enc a) (K.enc b)=some (decide (a=b))
section
variable {R:Type}
noncomputable def E5 {K V:Type} (l:List (K×V)) (key:K):Option Nat:=open Classical in l.findIdx? λp=>decide (key=p.1)
noncomputable def x6 {K V:Type} (l:List (K×V)) (key:K) (v:V):List (K×V):=match E5 l key with
 |some i=>l.set i (key,v)
 |none=>l++[(key,v)]
noncomputable def getM {K V:Type} (l:List (K×V)) (key:K):Option V:=(E5 l key).bind λi=>(l[i]?).map (·.2)
noncomputable def AD {K V:Type} (l:List (K×V)) (key:K) (k:V->Option R) (z:Option R):Option R:=match getM l key with
 |some v=>k v
 |none=>z
def AT {α:Type} (x:α) (k:α->Option R):Option R:=k x
end
theorem Ng {K:xH} [HW K] {V:Type} (key:K.T):∀l:List (K.T×V),xe (K.enc key) (l.map λp=>K.enc p.1)=some (E5 l key):=by intro l;induction l with
 |nil=>rfl
 |cons p l q=>
  obtain⟨inst,h⟩:=HW.is (K:=K) _ _;rw[bS,xe,h];unfold E5;rw[uO];by_cases e:key=p.1
  .simp[e]
  .simp[q,e];rfl
theorem Yk {K V:Type} {l:List (K×V)} {key:K} {i:Nat} (h:E5 l key=some i):∃q:i<l.length,(l[i]'q).1=key:=by unfold E5 at h;rw[y9] at h;grind
def vP {K V:xH} [fq K.enc] [fq V.enc]:∀{a b:List (K.T×V.T)},(fK K V a).1=(fK K V b).1->(fK K V a).2=(fK K V b).2->a=b:=by intro a;induction a with
 |nil=>simp_all[fK]
 |cons x a z=>intro b h q;cases b with
  |nil=>simp[fK] at h
  |cons y b=>simp[fK,bS,cV] at h q;obtain⟨B,D⟩:=x;obtain⟨F,G⟩:=y;have e1:B=F:=fq.inj _ _ h.1;have w:D=G:=fq.inj _ _ q.1;rw[e1,w,z h.2 q.2]
instance {K V:xH} [fq K.enc] [fq V.enc]:fq (fK K V):=⟨λa b h=>vP (aU Prod.fst h) (aU Prod.snd h)⟩
def adx {K V:xH} [HW K] (key:K.T) (l:List (K.T×V.T)):Wa (K.enc key) (fK K V l).1 (fK K V l).2=some ((getM l key).map V.enc):=by unfold Wa fK getM;grind[Ng,Yk]
theorem T7 {K V:xH} {l:List (K.T×V.T)} {key:K.T} {v:V.T} {i:Nat} (h:E5 l key=some i):fK K V (l.set i (key,v))=((fK K V l).1,(fK K V l).2.set i (V.enc v)):=by
 obtain⟨q,e⟩:=Yk h;unfold fK;rw[cD];constructor
 .apply nK
  .simp
  grind
 simp
def adA {K V:xH} [HW K] (key:K.T) (v:V.T) (l:List (K.T×V.T)):Wf (K.enc key) (V.enc v) (fK K V l).1 (fK K V l).2=some (fK K V (x6 l key v)):=by grind[fK,Ng,Wf,x6,T7]
section
variable {T:Type} {E:T->Out}
def I_look {K V:xH} [HW K] [fq V.enc] {l:List (K.T×V.T)} {key:K.T} {k:V.T->Option Out} {k':V.T->Option T} {z:Option Out} {w:Option T} (h:∀y,ng E (k y) (k' y)) (B:ng E z w):
  ng E (Nc (Wa (K.enc key) (fK K V l).1 (fK K V l).2) (λv=>uE V.enc v k) z) (AD l key k' w):=by
 intro x q;unfold AD at q;unfold Nc;rw[adx];cases e:getM l _ with
 |none=>rw[e] at q;exact B _ q
 |some v=>rw[e] at q;simp;rw[mc];exact h _ _ q
def I_put {K V:xH} [HW K] [fq K.enc] [fq V.enc] {l:List (K.T×V.T)} {key:K.T} {a:AV} {v:V.T} {k:List (K.T×V.T)->Option Out} {k':List (K.T×V.T)->Option T} (q:a=V.enc v) (h:∀m,ng E (k m) (k' m)):
  ng E (Z1 (Wf (K.enc key) a (fK K V l).1 (fK K V l).2) λp=>uE (fK K V) p k) (AT (x6 l key v) k'):=by
 subst q;intro x w;unfold Z1;rw[adA];simp[mc];exact h _ _ w
def ko {A:Type} (enc:A->List AV) (k:Nat):A->List AV:=λx=>(enc x).set k .hole
abbrev qh {V:Type} (enc:V->List AV):List (Option (List V))->List (Option (List (List AV))):=List.map (Option.map (List.map enc))
instance {V:Type} (enc:V->List AV) [fq enc]:fq (qh enc):=⟨λa b h=>by
 refine map_inj (λx y e=> ?_) _ _ h;cases x<;>cases y<;>simp at e⊢
 exact map_inj fq.inj _ _ e⟩
instance {V:Type} (enc:V->List AV) [fq enc]:fq (List.map (Option.map (List.map enc))):=inferInstanceAs (fq (qh enc))
def Wq {R V:Type} (q:List (Option (List V))) (i:Nat) (k:List V->List (Option (List V))->Option R):Option R:=match q[i]? with
 |some (some w)=>k w (q.set i none)
 |_=>none
def uD {q A V:Type} (qN:q->List V->A):List q->List (Option (List V))->Option (List A)
 |[],[]=>some []
 |x::xs,some y::w=>(uD qN xs w).map (qN x y:: ·)
 |_,_=>none
def yf {R q A V:Type} (qN:q->List V->A) (xs:List q) (w:List (Option (List V))) (k:List A->Option R):Option R:=match uD qN xs w with
 |some l=>k l
 |none=>none
def I_out {V:Type} {enc:V->List AV} [fq enc] {Y:List (Option (List V))} {i:Nat} {k:List V->List (Option (List V))->Option Out} {k':List V->List (Option (List V))->Option T} (h:∀q y,ng E (k q y) (k' q y)):
  ng E (ZV (qh enc Y) i λc=>uE (List.map enc) c λq=>uE (qh enc) ((qh enc Y).set i none) λy=>k q y) (Wq Y i k'):=by
 intro x w;unfold Wq at w;split at w
 .rename_i q B;have e1:(qh enc Y)[i]? =some (some (q.map enc)):=by simp[B]
  have z:(qh enc Y).set i none=qh enc (Y.set i none):=by rw[qh,uP];rfl
  unfold ZV;rw[e1];simp only;rw[mc,z,mc];exact h _ _ _ w
 simp_all
def aaz {V:Type} {enc:V->List AV} [fq enc] {Y:List (Option (List V))} {i:Nat} {L:List (List AV)} {q:List V} {k:List (Option (List V))->Option Out} {k':List (Option (List V))->Option T} (z:L=q.map enc) (h:∀y,ng E (k y) (k' y)):
  ng E (check (i<(qh enc Y).length) (uE (qh enc) ((qh enc Y).set i (some L)) k)) (check (i<Y.length) (AT (Y.set i (some q)) k')):=by
 subst z;refine jD ai ?_;have w:(qh enc Y).set i (some (q.map enc))=qh enc (Y.set i (some q)):=by rw[qh,uP];rfl
 rw[w,mc];exact h _
def MH {B A V:Type} {w:B->List AV} {enc:A->List AV} {q:V->List AV} {qN:B->List V->A} {k s:Nat} (G:∀x z,(w x).set k (.dG s (z.map q))=enc (qN x z)):∀{xs:List B} {F:List (Option (List V))} {l:List A},uD qN xs F=some l->
  ∃c,qH (qh q F)=some c/\wG k s (xs.map w) c=l.map enc
 |[],[],l,h=>by simp[uD,bq] at h;subst h;exact⟨[],rfl,rfl⟩
 |x::xs,some y::F,l,h=>by simp[uD,cH] at h;obtain⟨K,D,rfl⟩:=h;obtain⟨c,H,I⟩:=MH G D;simp_all[qH,wG]
 |[],_::_,l,h=>by simp[uD] at h
 |_::_,[],l,h=>by simp[uD] at h
 |_::_,none::_,l,h=>by simp[uD] at h
def Dj {w A V:Type} {Du:w->List AV} {enc:A->List AV} [fq enc] {zJ:V->List AV} {qN:w->List V->A} {q s:Nat} {xs:List w} {D:List (Option (List V))} {k:List A->Option Out} {k':List A->Option T} (h:∀m,ng E (k m) (k' m))
  (I:∀x z,(Du x).set q (.dG s (z.map zJ))=enc (qN x z):=by intro _ _;rfl):
  ng E (UL (qH (qh zJ D)) λc=>uE (List.map enc) (wG q s (xs.map Du) c) k) (yf qN xs D k'):=by
 intro x B;unfold yf at B;split at B
 .rename_i m H;obtain⟨c,F,G⟩:=MH I H;unfold UL;rw[F];simp only;rw[G,mc];exact h _ _ B
 simp_all
def Jk {A V:Type} {q:A->List AV} {qN:A->List V->A} {sub:A->List V} (D:∀x z,q (qN x z)=q x) (F:∀x z,sub (qN x z)=z):∀{xs:List A} {B:List (Option (List V))} {l:List A},uD qN xs B=some l->
  xs.map q=l.map q/\B=l.map λx=>some (sub x)
 |[],[],l,h=>by simp[uD] at h;simp_all
 |x::xs,some y::B,l,h=>by simp[uD,cH] at h;obtain⟨I,w,rfl⟩:=h;obtain⟨G,H⟩:=Jk D F w;simp_all
 |[],_::_,l,h=>by simp[uD] at h
 |_::_,[],l,h=>by simp[uD] at h
 |_::_,none::_,l,h=>by simp[uD] at h
def I_endN {A V:Type} {Du:A->List AV} {zJ:V->List AV} {qN:A->List V->A} (sub:A->List V) {xs:List A} {w:List (Option (List V))} {F:List (List AV)->List (Option (List (List AV)))->Out} {k':List A->Option T}
  (h:∀l:List A,ng E (some (F (l.map Du) (qh zJ (l.map λx=>some (sub x))))) (k' l)) (G:∀x z,Du (qN x z)=Du x:=by intro _ _;rfl) (I:∀x z,sub (qN x z)=z:=by intro _ _;rfl):
  ng E (some (F (xs.map Du) (qh zJ w))) (yf qN xs w k'):=by
 intro x q;unfold yf at q;split at q
 .rename_i m H;obtain⟨B,D⟩:=Jk G I H;rw[B,D];exact h _ _ q
 simp_all
def WE {A V:Type} {q:A->List AV} {zJ:V->List AV} [fq zJ] {sub:A->List V} (w:∀a b,q a=q b->sub a=sub b->a=b):∀{x y:List A},x.map q=y.map q->qh zJ (x.map λa=>some (sub a))=qh zJ (y.map λa=>some (sub a))->x=y
 |[],[],_,_=>rfl
 |[],_::_,h,_=>by simp at h
 |_::_,[],h,_=>by simp at h
 |a::x,b::y,h,k=>by simp at h;have k:=fq.inj _ _ k;simp at k;rw[w a b h.1 k.1,WE (zJ:=zJ) w h.2 (by rw[k.2])]
def IgX {A:Type} {gQ enc:A->List AV} (q:gQ=enc) [fq enc] {xs:List A} {i:Int} {k:A->Option Out} {k':A->Option T} (h:∀x,ng E (k x) (k' x)):ng E (bf (List.map gQ xs) i λc=>uE enc c k) (bf xs i k'):=by subst q;exact Ig _ h
def aaw {V:Type} {enc:V->List AV} [fq enc] {Y Z:List (Option (List V))} {k:List (Option (List V))->Option Out} {k':List (Option (List V))->Option T} (h:∀y,ng E (k y) (k' y)):
  ng E (uE (qh enc) (qh enc Y++qh enc Z) k) (AT (Y++Z) k'):=by
 have e:qh enc Y++qh enc Z=qh enc (Y++Z):=ai;rw[e,mc];exact h _
def I_callM {U:Type} {q:U->Out} {c:Option Out} {f:Option U} {w:AV->List (Nat×Ob)->Option Out} {k':U->Option T} (D:ng q c f) (h:∀y,ng E (w (q y).1 (q y).2) (k' y)):ng E (Bq c w) (Option.bind f k'):=by intro x F;obtain⟨y,z,B⟩:=bind_some F;rw[D _ z];unfold Bq;exact h _ _ B
def A4 {U:Type} {q:U->Out} [fq q] {c:Option Out} {f:Option U} {k:U->Option Out} {k':U->Option T} (B:ng q c f) (h:∀y,ng E (k y) (k' y)):ng E (Me q c k) (Option.bind f k'):=by intro x D;obtain⟨y,w,z⟩:=bind_some D;rw[B _ w];unfold Me;simp only;rw[mc];exact h _ _ z
noncomputable abbrev genK2 {U V R:Type} (q:U×V->Out) (c:Option Out) (k:U->V->Option R):Option R:=Me q c λp=>k p.1 p.2
noncomputable abbrev genK3 {U V W R:Type} (q:U×V×W->Out) (c:Option Out) (k:U->V->W->Option R):Option R:=Me q c λp=>k p.1 p.2.1 p.2.2
noncomputable abbrev genK4 {q w z B R:Type} (D:q×w×z×B->Out) (c:Option Out) (k:q->w->z->B->Option R):Option R:=Me D c λp=>k p.1 p.2.1 p.2.2.1 p.2.2.2
def FR {U V:Type} {q:U×V->Out} [fq q] {c:Option Out} {f:Option (U×V)} {k:U->V->Option Out} {k':U->V->Option T} (w:ng q c f) (h:∀y v,ng E (k y v) (k' y v)):ng E (genK2 q c k) (qs f k'):=
 A4 w λp=>h _ _
def Je {U V W:Type} {q:U×V×W->Out} [fq q] {c:Option Out} {f:Option (U×V×W)} {k:U->V->W->Option Out} {k':U->V->W->Option T} (z:ng q c f) (h:∀y v w,ng E (k y v w) (k' y v w)):ng E (genK3 q c k) (eM f k'):=
 A4 z λp=>h _ _ _
def UE {q z B D:Type} {F:q×z×B×D->Out} [fq F] {c:Option Out} {f:Option (q×z×B×D)} {k:q->z->B->D->Option Out} {k':q->z->B->D->Option T} (G:ng F c f) (h:∀y v w x,ng E (k y v w x) (k' y v w x)):ng E (genK4 F c k) (mJ f k'):=
 A4 G λp=>h _ _ _ _
noncomputable abbrev genK5 {q w z B D R:Type} (F:q×w×z×B×D->Out) (c:Option Out) (k:q->w->z->B->D->Option R):Option R:=Me F c λp=>k p.1 p.2.1 p.2.2.1 p.2.2.2.1 p.2.2.2.2
def I_gen5 {q w z B D:Type} {F:q×w×z×B×D->Out} [fq F] {c:Option Out} {f:Option (q×w×z×B×D)} {k:q->w->z->B->D->Option Out} {k':q->w->z->B->D->Option T} (G:ng F c f) (h:∀a b c d e,ng E (k a b c d e) (k' a b c d e)):ng E (genK5 F c k) (Js f k'):=
 A4 G λp=>h _ _ _ _ _
end
end Go.AM
set_option synthInstance.maxSize 100000
set_option synthInstance.maxHeartbeats 1000000
namespace Go.AM
universe u v
class Rw {α:Sort u} (a:α) (b:outParam α):Prop where
 e:a=b
class Io (α:Type) (enc:outParam (α->List AV)):Prop
class En {α:Type} (l:List α) (enc:outParam (α->List AV)):Prop
def tl {α:Type} (enc:α->List AV) (x:α):α:=x
def tg {α:Type} (enc:α->AV) (x:α):α:=x
def tw {α:Type} (enc:α->List AV) (x:List α):List α:=x
class EnR (α:Type) (f:outParam (α->AV)):Prop
class Im {T:Type} (E:T->Out) (t:Option T) (c:outParam (Option Out)):Prop where
 p:ng E c t
section
instance (priority:=low) iSelf {α:Sort u} (a:α):Rw a a:=⟨rfl⟩
instance (priority:=low) iEn {α:Type} {enc:α->List AV} [Io α enc] (l:List α):En l enc:=⟨⟩
instance iEnE {β:Type} {x:List β} {s:Nat} {f:β->List AV}:En (tl (mF s f) x) f:=⟨⟩
section
variable {α:Type} {enc:α->List AV} {l m:List α}
instance [En l enc]:En (l++m) enc:=⟨⟩
instance [En l enc] {i:Nat} {x:α}:En (l.set i x) enc:=⟨⟩
instance [En l enc] {i:Nat}:En (l.take i) enc:=⟨⟩
instance [En l enc] {i:Nat}:En (l.drop i) enc:=⟨⟩
end
instance:Io Int (dW .i64):=⟨⟩
instance:Io (List UInt8) pE:=⟨⟩
instance:Io Bool Xk:=⟨⟩
instance:Io (List Int) (mF 1 (dW .i64)):=⟨⟩
instance:Io (List (List UInt8)) (mF 1 pE):=⟨⟩
variable {α:Type u} {β:Type v}
instance iCons {a q:α} {l w:List α} [Rw a q] [Rw l w]:Rw (a::l) (q::w):=⟨by cases Rw.e (a:=a) (b:=q);cases Rw.e (a:=l) (b:=w);rfl⟩
instance iPair {a q:α} {b w:β} [Rw a q] [Rw b w]:Rw (a,b) (q,w):=⟨by cases Rw.e (a:=a) (b:=q);cases Rw.e (a:=b) (b:=w);rfl⟩
instance iSet {f:α->β} {l:List α} {L:List β} {i q:Nat} {x:α} {y:β} [Rw (l.map f) L] [Rw i q] [Rw (f x) y]:Rw ((l.set i x).map f) (L.set q y):=⟨by cases Rw.e (a:=(l.map f)) (b:=L);cases Rw.e (a:=i) (b:=q);cases Rw.e (a:=(f x)) (b:=y);exact uP ..⟩
instance iApp {f:α->β} {l m:List α} {L M:List β} [Rw (l.map f) L] [Rw (m.map f) M]:Rw ((l++m).map f) (L++M):=⟨by cases Rw.e (a:=(l.map f)) (b:=L);cases Rw.e (a:=(m.map f)) (b:=M);exact cL ..⟩
instance iMc {f:α->β} {x:α} {y:β} {l:List α} {L:List β} [Rw (f x) y] [Rw (l.map f) L]:Rw ((x::l).map f) (y::L):=⟨by cases Rw.e (a:=(f x)) (b:=y);cases Rw.e (a:=(l.map f)) (b:=L);rfl⟩
instance iMn {f:α->β}:Rw (([]:List α).map f) []:=⟨rfl⟩
instance iTake {f:α->β} {l:List α} {L:List β} {n q:Nat} [Rw (l.map f) L] [Rw n q]:Rw ((l.take n).map f) (L.take q):=⟨by cases Rw.e (a:=(l.map f)) (b:=L);cases Rw.e (a:=n) (b:=q);exact List.map_take ..⟩
instance iDrop {f:α->β} {l:List α} {L:List β} {n q:Nat} [Rw (l.map f) L] [Rw n q]:Rw ((l.drop n).map f) (L.drop q):=⟨by cases Rw.e (a:=(l.map f)) (b:=L);cases Rw.e (a:=n) (b:=q);exact p7 ..⟩
instance iRep {f:α->β} {n q:Nat} {x:α} {y:β} [Rw n q] [Rw (f x) y]:Rw ((List.replicate n x).map f) (List.replicate q y):=⟨by cases Rw.e (a:=n) (b:=q);cases Rw.e (a:=(f x)) (b:=y);exact uQ ..⟩
instance iELst {U:Type} {s:Nat} {f:U->List AV} {l:List U} {L:List (List AV)} [Rw (l.map f) L]:Rw (mF s f l) [.dG s L]:=⟨by cases Rw.e (a:=(l.map f)) (b:=L);rfl⟩
instance iEInt {k:IntKind} {x y:Int} [Rw x y]:Rw (dW k x) [.int k y]:=⟨by cases Rw.e (a:=x) (b:=y);rfl⟩
instance {x y:AV} [Rw x y]:Rw (SV.pv x) (.pv y):=⟨by cases Rw.e (a:=x) (b:=y);rfl⟩
instance {k:IntKind} {x y:Int} [Rw x y]:Rw (AV.int k x) (.int k y):=⟨by cases Rw.e (a:=x) (b:=y);rfl⟩
instance {s:Nat} {x y:List (List AV)} [Rw x y]:Rw (AV.dG s x) (.dG s y):=⟨by cases Rw.e (a:=x) (b:=y);rfl⟩
instance {x y:Nat} [Rw x y]:Rw (AV.self x) (.self y):=⟨by cases Rw.e (a:=x) (b:=y);rfl⟩
instance {x y:List AV} [Rw x y]:Rw (AV.agg x) (.agg y):=⟨by cases Rw.e (a:=x) (b:=y);rfl⟩
instance {x y:List AV} [Rw x y]:Rw (AV.gX x) (.gX y):=⟨by cases Rw.e (a:=x) (b:=y);rfl⟩
instance {x y:Bool} [Rw x y]:Rw (AV.bool x) (.bool y):=⟨by cases Rw.e (a:=x) (b:=y);rfl⟩
instance {x y:List UInt8} [Rw x y]:Rw (AV.str x) (.str y):=⟨by cases Rw.e (a:=x) (b:=y);rfl⟩
instance {i s a b c d:Nat} [Rw a c] [Rw b d]:Rw (SV.sub i s a b) (.sub i s c d):=⟨by cases Rw.e (a:=a) (b:=c);cases Rw.e (a:=b) (b:=d);rfl⟩
instance {e s:Nat} {x y:List (List AV)} [Rw x y]:Rw (Ob.row e s x) (.row e s y):=⟨by cases Rw.e (a:=x) (b:=y);rfl⟩
instance {e:Nat} {x y:List SV} [Rw x y]:Rw (Ob.box e x) (.box e y):=⟨by cases Rw.e (a:=x) (b:=y);rfl⟩
instance {U:Type} {Q:U->AV} {x:U} {a:AV} [Rw (Q x) a]:Rw (EN Q x) (a,[]):=⟨by cases Rw.e (a:=Q x) (b:=a);rfl⟩
instance iLen {U:Type} {l:List U} {enc:U->List AV} {L:List (List AV)} [En l enc] [Rw (l.map enc) L]:Rw l.length L.length:=⟨by cases Rw.e (a:=(l.map enc)) (b:=L);exact(bz ..).symm⟩
instance {x y:Nat} [Rw x y]:Rw (x:Int) (y:Int):=⟨by cases Rw.e (a:=x) (b:=y);rfl⟩
instance {x y:Int} [Rw x y]:Rw (toNat x) (toNat y):=⟨by cases Rw.e (a:=x) (b:=y);rfl⟩
instance {k:IntKind} {x y:Int} [Rw x y]:Rw (wrap k x) (wrap k y):=⟨by cases Rw.e (a:=x) (b:=y);rfl⟩
instance [HAdd α α α] {a b q w:α} [Rw a q] [Rw b w]:Rw (a+b) (q+w):=⟨by cases Rw.e (a:=a) (b:=q);cases Rw.e (a:=b) (b:=w);rfl⟩
instance [HSub α α α] {a b q w:α} [Rw a q] [Rw b w]:Rw (a-b) (q-w):=⟨by cases Rw.e (a:=a) (b:=q);cases Rw.e (a:=b) (b:=w);rfl⟩
instance [HMul α α α] {a b q w:α} [Rw a q] [Rw b w]:Rw (a *b) (q *w):=⟨by cases Rw.e (a:=a) (b:=q);cases Rw.e (a:=b) (b:=w);rfl⟩
instance [LT α] {a b q w:α} [Rw a q] [Rw b w]:Rw (a<b) (q<w):=⟨by cases Rw.e (a:=a) (b:=q);cases Rw.e (a:=b) (b:=w);rfl⟩
instance [LE α] {a b q w:α} [Rw a q] [Rw b w]:Rw (a<=b) (q<=w):=⟨by cases Rw.e (a:=a) (b:=q);cases Rw.e (a:=b) (b:=w);rfl⟩
instance [LT α] {a b q w:α} [Rw a q] [Rw b w]:Rw (a>b) (q>w):=⟨by cases Rw.e (a:=a) (b:=q);cases Rw.e (a:=b) (b:=w);rfl⟩
instance [LE α] {a b q w:α} [Rw a q] [Rw b w]:Rw (a>=b) (q>=w):=⟨by cases Rw.e (a:=a) (b:=q);cases Rw.e (a:=b) (b:=w);rfl⟩
instance {a b q w:α} [Rw a q] [Rw b w]:Rw (a=b) (q=w):=⟨by cases Rw.e (a:=a) (b:=q);cases Rw.e (a:=b) (b:=w);rfl⟩
instance {p q w z:Prop} [Rw p w] [Rw q z]:Rw (p/\q) (w/\z):=⟨by cases Rw.e (a:=p) (b:=w);cases Rw.e (a:=q) (b:=z);rfl⟩
instance {p q:Prop} [Rw p q] [i:Decidable p] [j:Decidable q]:Rw (decide p) (decide q):=⟨by
 cases Rw.e (a:=p) (b:=q);congr⟩
instance [BEq α] {a b q w:α} [Rw a q] [Rw b w]:Rw (a==b) (q==w):=⟨by cases Rw.e (a:=a) (b:=q);cases Rw.e (a:=b) (b:=w);rfl⟩
instance [BEq α] {a b q w:α} [Rw a q] [Rw b w]:Rw (a !=b) (q !=w):=⟨by cases Rw.e (a:=a) (b:=q);cases Rw.e (a:=b) (b:=w);rfl⟩
instance {a q:Bool} [Rw a q]:Rw (!a) (!q):=⟨by cases Rw.e (a:=a) (b:=q);rfl⟩
instance {a b q w:Bool} [Rw a q] [Rw b w]:Rw (a&&b) (q&&w):=⟨by cases Rw.e (a:=a) (b:=q);cases Rw.e (a:=b) (b:=w);rfl⟩
instance iRun {P:Program} {H:Nat->Hint} {gR:eN} {f:Nat} {a q:List SV} {l w:List (Nat×Ob)} [Rw a q] [Rw l w]:Rw (run P H gR f a l) (run P H gR f q w):=⟨by cases Rw.e (a:=a) (b:=q);cases Rw.e (a:=l) (b:=w);rfl⟩
instance iHead {P:Program} {C:ni} {H:Nat->Hint} {gR:eN} {f key:Nat} {nm:List Nat} {a q:List (Nat×SV)} {l w:List (Nat×Ob)} [Rw a q] [Rw l w]:Rw (AA P C H gR f key nm a l) (AA P C H gR f key nm q w):=⟨by cases Rw.e (a:=a) (b:=q);cases Rw.e (a:=l) (b:=w);rfl⟩
end
section
variable {T:Type} {E:T->Out}
instance mSome {x:T} {y:Out} [Rw (E x) y]:Im E (some x) (some y):=⟨xI (Rw.e (a:=E x)).symm⟩
instance mDec {c c':Option Out} [Rw c c']:Im E (dec E c) c':=⟨by rw[<-Rw.e (a:=c) (b:=c')];exact Iz⟩
instance mCond {c c':Bool} {a b:Option Out} {q w:Option T} [Rw c' c] [Im E q a] [Im E w b]:Im E (bif c' then q else w) (bif c then a else b):=⟨uq (Rw.e (a:=c')).symm (Im.p (t:=q)) (Im.p (t:=w))⟩
instance mCheck {p q:Prop} [Decidable q] [Rw q p] [Decidable p] {a:Option Out} {w:Option T} [Im E w a]:Im E (check q w) (check p a):=⟨jD (λh=>by rw[<-Rw.e (a:=q) (b:=p)];exact h) (Im.p (t:=w))⟩
instance mGetK {α:Type} {enc:α->List AV} {l:List α} [En l enc] [fq enc] {L:List (List AV)} [Rw (l.map enc) L] {i q:Int} [Rw q i] {k:α->Option Out} {k':α->Option T} [h:∀x,Im E (k' (tl enc x)) (k x)]:Im E (bf l q k') (bf L i λc=>uE enc c k):=⟨I_getKx (Rw.e (a:=l.map enc)).symm (Rw.e (a:=q)).symm λx=>(h x).p⟩
instance mGetN {α:Type} {enc:α->List AV} {l:List α} [En l enc] [fq enc] {L:List (List AV)} [Rw (l.map enc) L] {i q:Nat} [Rw q i] {k:α->Option Out} {k':α->Option T} [h:∀x,Im E (k' (tl enc x)) (k x)]:Im E (dO l q k') (dO L i λc=>uE enc c k):=⟨I_getNx (Rw.e (a:=l.map enc)).symm (Rw.e (a:=q)).symm λx=>(h x).p⟩
instance mGetb {l:List UInt8} {i q:Int} [Rw q i] {k:UInt8->Option Out} {k':UInt8->Option T} [∀x,Im E (k' x) (k x)]:Im E (bf l q k') (bf l i k):=⟨by rw[Rw.e (a:=q) (b:=i)];exact I_getb λx=>Im.p (t:=k' x)⟩
instance mCall {U:Type} {enc:U->AV} [fq enc] {c c':Option Out} [Rw c' c] {k:U->Option Out} {k':U->Option T} [h:∀y,Im E (k' (tg enc y)) (k y)]:Im E (Option.bind (dec (EN enc) c') k') (yj c λr=>uE enc r k):=⟨by rw[Rw.e (a:=c') (b:=c)];exact Ik λy=>(h y).p⟩
end
section
variable {α β:Type}
def pA (enc:α->List AV):α->AV:=λx=> .agg (enc x)
def pL (n:Nat) (enc:α->List AV):List α->AV:=λx=> .dG n (x.map enc)
def pP (f:α->AV) (g:β->AV):α×β->AV:=λx=> .gX [f x.1,g x.2]
def pT {q:Type} (f:α->AV) (g:β->AV) (h:q->AV):α×β×q->AV:=λx=> .gX [f x.1,g x.2.1,h x.2.2]
def pW (e n:Nat) (enc:α->List AV):List α->AV:=λx=> .gX [.gX [.self e, .dG n (x.map enc)]]
def pM (f:α->AV) (g:β->AV):List (α×β)->AV:=λx=> .mp (fK ⟨α,f⟩ ⟨β,g⟩ x).1 (fK ⟨α,f⟩ ⟨β,g⟩ x).2
def pF (n:Nat) (enc:α->List AV):List α->AV:=λx=> .fn n [.ref [.dG 2 (x.map enc)]]
def pU:Unit->AV:=λ_=> .gX []
variable {f:α->AV} {g:β->AV} {enc:α->List AV} {n e:Nat}
instance {k:IntKind}:fq (AV.int k):=⟨λa b h=>by injection h⟩
instance:fq AV.bool:=⟨λa b h=>by injection h⟩
instance:fq AV.str:=⟨λa b h=>by injection h⟩
instance:fq AV.self:=⟨λa b h=>by injection h⟩
instance:fq pU:=⟨λ_ _ _=>rfl⟩
instance [fq enc]:fq (pA enc):=⟨λa b h=>by injection h with h;exact fq.inj _ _ h⟩
instance [fq enc]:fq (pL n enc):=⟨λa b h=>by injection h with _ h;exact map_inj fq.inj _ _ h⟩
instance [fq f] [fq g]:fq (pP f g):=⟨λa b h=>by
 simp only[pP,AV.gX.injEq,cV,eP] at h
 exact p8 (fq.inj _ _ h.1) (fq.inj _ _ h.2)⟩
instance [fq enc]:fq (pW e n enc):=⟨λa b h=>by
 simp only[pW,AV.gX.injEq,cV,AV.dG.injEq,eH,eP] at h
 exact map_inj fq.inj _ _ h⟩
instance [fq enc]:fq (pF n enc):=⟨λa b h=>by
 simp only[pF,AV.fn.injEq,AV.ref.injEq,cV,AV.dG.injEq,eH,eP] at h
 exact map_inj fq.inj _ _ h⟩
instance [i:fq f] [j:fq g]:fq (pM f g):=⟨λa b h=>by injection h with q w;exact @vP ⟨α,f⟩ ⟨β,g⟩ i j _ _ q w⟩
instance {l:List α} {L:List (List AV)} [Rw (l.map enc) L]:Rw (pL n enc l) (.dG n L):=⟨by cases Rw.e (a:=l.map enc) (b:=L);rfl⟩
instance {x:α} {y:β} {a b:AV} [Rw (f x) a] [Rw (g y) b]:Rw (pP f g (x,y)) (.gX [a,b]):=⟨by cases Rw.e (a:=f x) (b:=a);cases Rw.e (a:=g y) (b:=b);rfl⟩
instance {x:List α}:En (tg (pL n enc) x) enc:=⟨⟩
instance {x:List α×β}:En (tg (pP (pL n enc) g) x).1 enc:=⟨⟩
instance {q:Type} {h:q->AV} [fq f] [fq g] [fq h]:fq (pT f g h):=⟨λa b e=>by
 simp only[pT,AV.gX.injEq,cV,eP] at e
 exact p8 (fq.inj _ _ e.1) (p8 (fq.inj _ _ e.2.1) (fq.inj _ _ e.2.2))⟩
instance {q:Type} {h:q->AV} {x:α} {y:β} {z:q} {a b c:AV} [Rw (f x) a] [Rw (g y) b] [Rw (h z) c]:Rw (pT f g h (x,y,z)) (.gX [a,b,c]):=⟨by cases Rw.e (a:=f x) (b:=a);cases Rw.e (a:=g y) (b:=b);cases Rw.e (a:=h z) (b:=c);rfl⟩
instance {q:Type} {h:q->AV} {x:β×List α×q}:En (tg (pT g (pL n enc) h) x).2.1 enc:=⟨⟩
instance {x:β×List α}:En (tg (pP g (pL n enc)) x).2 enc:=⟨⟩
end
structure De0 where
 e:List (Nat×Ob)
 r:List (Nat×Ob)->Option Out->Option Out
 ok:∀k,r e k=k
structure De (T:Type) where
 e:T->List (Nat×Ob)
 r:List (Nat×Ob)->(T->Option Out)->Option Out
 ok:∀x k,r (e x) k=k x
structure It (α:Type) where
 e:α->Ob
 r:Ob->(α->Option Out)->Option Out
 ok:∀x k,r (e x) k=k x
noncomputable section
def unc (q:Nat) (o:Ob) (l:List (Nat×Ob)) (k:Ob->List (Nat×Ob)->Option Out):vw q ((q,o)::l) k=k o l:=by unfold vw;simp
def smk (o:Ob) (k:Option Out):Fi o o k=k:=by unfold Fi;simp
def dZ:De0:=⟨[],ZM,λk=>by unfold ZM;rfl⟩
def iR {α:Type} (e q:Nat) (enc:α->List AV) [fq enc]:It (List α):=⟨λxs=> .row e q (xs.map enc),λo k=>RL e q o λc=>uE (List.map enc) c k,λx k=>by unfold RL;simp[mc]⟩
def iM (w q:Nat) (K V:xH) [fq K.enc] [fq V.enc]:It (List (K.T×V.T)):=⟨λl=> .mp w q (fK K V l).1 (fK K V l).2,λo k=>RK w q o λc=>uE (fK K V) c k,λx k=>by unfold RK;simp[mc]⟩
section
variable {α T:Type}
def dT (q:Nat) (w:Ob) (d:De T):De T:=⟨λx=>(q,w)::d.e x,λl k=>vw q l λo l=>Fi o w (d.r l k),λx k=>by rw[unc,smk,d.ok]⟩
def dI (q:Nat) (i:It α) (d:De T):De (α×T):=⟨λx=>(q,i.e x.1)::d.e x.2,λl k=>vw q l λo l=>i.r o λx=>d.r l λy=>k (x,y),λx k=>by rw[unc,i.ok,d.ok]⟩
def dJ (q:Nat) (i:It α) (z:De0):De α:=⟨λx=>(q,i.e x)::z.e,λl k=>vw q l λo l=>i.r o λx=>z.r l (k x),λx k=>by rw[unc,i.ok,z.ok]⟩
variable {U:Type}
def eD (Q:U->AV) (d:De T):U×T->Out:=λx=>(Q x.1,d.e x.2)
def eZ (Q:U->AV) (z:De0):U->Out:=λx=>(Q x,z.e)
def eR {V:Type} (Q:U->AV) (q e w:Nat) (enc:V->List AV):U×List V->Out:=λx=>(Q x.1,[(q, .row e w (x.2.map enc))])
instance {V:Type} {Q:U->AV} {nm e sz:Nat} {enc:V->List AV} {x:U} {l:List V} {a:AV} {L:List (List AV)} [Rw (Q x) a] [Rw (l.map enc) L]:Rw (eR Q nm e sz enc (x,l)) (a,[(nm, .row e sz L)]):=⟨by cases Rw.e (a:=Q x) (b:=a);cases Rw.e (a:=l.map enc) (b:=L);rfl⟩
class RwI {V:Type} (i:It V) (x:V) (o:outParam Ob):Prop where
 e:i.e x=o
class RwD {V:Type} (d:De V) (x:V) (l:outParam (List (Nat×Ob))):Prop where
 e:d.e x=l
instance (priority:=low) {i:It α} {x:α}:RwI i x (i.e x):=⟨rfl⟩
instance {V:Type} {e sz:Nat} {enc:V->List AV} [fq enc] {l:List V} {L:List (List AV)} [j:Rw (l.map enc) L]:RwI (iR e sz enc) l (.row e sz L):=⟨by rw[<-j.e];rfl⟩
instance {nm:Nat} {q:Ob} {d:De T} {w:T} {l:List (Nat×Ob)} [j:RwD d w l]:RwD (dT nm q d) w ((nm,q)::l):=⟨by rw[<-j.e];rfl⟩
instance {nm:Nat} {i:It α} {d:De T} {x:α} {w:T} {o:Ob} {l:List (Nat×Ob)} [k:RwI i x o] [j:RwD d w l]:RwD (dI nm i d) (x,w) ((nm,o)::l):=⟨by rw[<-j.e,<-k.e];rfl⟩
instance {nm:Nat} {i:It α} {z:De0} {x:α} {o:Ob} [k:RwI i x o]:RwD (dJ nm i z) x ((nm,o)::z.e):=⟨by rw[<-k.e];rfl⟩
instance {Q:U->AV} {d:De T} {x:U} {w:T} {a:AV} {l:List (Nat×Ob)} [i:Rw (Q x) a] [j:RwD d w l]:Rw (eD Q d (x,w)) (a,l):=⟨by rw[<-i.e,<-j.e];rfl⟩
def De.inj (d:De T) {a b:T} (h:d.e a=d.e b):a=b:=by
 have q:=d.ok a λx=>open Classical in if x=a then some (.pG,[]) else none
 rw[h,d.ok] at q;simp at q;exact q.symm
instance {Q:U->AV} [fq Q] {d:De T}:fq (eD Q d):=⟨λa b h=>p8 (fq.inj _ _ (aU Prod.fst h)) (d.inj (aU Prod.snd h))⟩
instance {Q:U->AV} [fq Q] {z:De0}:fq (eZ Q z):=⟨λa b h=>fq.inj _ _ (aU Prod.fst h)⟩
instance {V:Type} {Q:U->AV} [fq Q] {nm e sz:Nat} {enc:V->List AV} [fq enc]:fq (eR Q nm e sz enc):=⟨λa b h=>by
 simp only[eR,cD,cV,Ob.row.injEq,eH,eP] at h
 exact p8 (fq.inj _ _ h.1) (map_inj fq.inj _ _ h.2)⟩
end
end
section
variable {T U W:Type} {E:T->Out} {Q:U->AV} [fq Q] {c c':Option Out}
def I_D {d:De W} {k:U->W->Option Out} {k':U×W->Option T} (h:∀y w,ng E (k y w) (k' (y,w))):ng E (Bq c λr l=>d.r l λw=>uE Q r λy=>k y w) (Option.bind (dec (eD Q d) c) k'):=
 I_callM (jM _ _) λy=>by simp only[eD,d.ok,mc];exact h _ _
instance mCall3 {q z:Type} {d:De (q×z)} [Rw c' c] {k:U->q->z->Option Out} {k':U->q->z->Option T} [h:∀y B D,Im E (k' (tg Q y) B D) (k y B D)]:Im E (eM (dec (eD Q d) c') k') (Bq c λr l=>d.r l λw=>uE Q r λy=>k y w.1 w.2):=⟨by
 rw[Rw.e (a:=c') (b:=c)];exact I_D λy w=>(h y w.1 w.2).p⟩
instance mCall4 {q z B:Type} {d:De (q×z×B)} [Rw c' c] {k:U->q->z->B->Option Out} {k':U->q->z->B->Option T} [h:∀y D F G,Im E (k' (tg Q y) D F G) (k y D F G)]:Im E (mJ (dec (eD Q d) c') k') (Bq c λr l=>d.r l λw=>uE Q r λy=>k y w.1 w.2.1 w.2.2):=⟨by
 rw[Rw.e (a:=c') (b:=c)];exact I_D λy w=>(h y w.1 w.2.1 w.2.2).p⟩
instance mCall5 {q z B D:Type} {d:De (q×z×B×D)} [Rw c' c] {k:U->q->z->B->D->Option Out} {k':U->q->z->B->D->Option T} [h:∀y F G H I,Im E (k' (tg Q y) F G H I) (k y F G H I)]:Im E (Js (dec (eD Q d) c') k') (Bq c λr l=>d.r l λw=>uE Q r λy=>k y w.1 w.2.1 w.2.2.1 w.2.2.2):=⟨by
 rw[Rw.e (a:=c') (b:=c)];exact I_D λy w=>(h y w.1 w.2.1 w.2.2.1 w.2.2.2).p⟩
instance mCall6 {q z B D F:Type} {d:De (q×z×B×D×F)} [Rw c' c] {k:U->q->z->B->D->F->Option Out} {k':U->q->z->B->D->F->Option T} [h:∀y G H I K L,Im E (k' (tg Q y) G H I K L) (k y G H I K L)]:Im E (RN (dec (eD Q d) c') k') (Bq c λr l=>d.r l λw=>uE Q r λy=>k y w.1 w.2.1 w.2.2.1 w.2.2.2.1 w.2.2.2.2):=⟨by
 rw[Rw.e (a:=c') (b:=c)];exact I_D λy w=>(h y w.1 w.2.1 w.2.2.1 w.2.2.2.1 w.2.2.2.2).p⟩
instance mCallR {V:Type} {nm e sz:Nat} {q:V->List AV} [fq q] [Rw c' c] {k:U->List V->Option Out} {k':U->List V->Option T} [h:∀y w,Im E (k' (tg Q y) (tw q w)) (k y w)]:Im E (qs (dec (eR Q nm e sz q) c') k') (G4 c nm e sz λr c2=>uE Q r λy=>uE (List.map q) c2 λxs=>k y xs):=⟨by
 rw[Rw.e (a:=c') (b:=c)];exact I_callR (jM _ _) λy w=>(h y w).p⟩
instance:EnR Int (AV.int .i64):=⟨⟩
instance:EnR Bool AV.bool:=⟨⟩
instance:EnR (List UInt8) AV.str:=⟨⟩
end
section
variable {T:Type} {E:T->Out} {κ ν:Type} {f:κ->AV} {g:ν->AV} {l:List (κ×ν)} {key:κ} {a:AV}
instance mLook [EnR κ f] [EnR ν g] [HW ⟨κ,f⟩] [i:fq g] [Rw (f key) a] {k:ν->Option Out} {k':ν->Option T} {z:Option Out} {q:Option T} [h:∀y,Im E (k' (tg g y)) (k y)] [Im E q z]:Im E (AD l key k' q) (Nc (Wa a (fK ⟨κ,f⟩ ⟨ν,g⟩ l).1 (fK ⟨κ,f⟩ ⟨ν,g⟩ l).2) (λv=>uE g v k) z):=⟨by
 rw[<-Rw.e (a:=f key) (b:=a)];exact @I_look T E ⟨κ,f⟩ ⟨ν,g⟩ _ i l key k k' z q (λy=>(h y).p) Im.p⟩
instance mPut [EnR κ f] [EnR ν g] [HW ⟨κ,f⟩] [i:fq g] [Rw (f key) a] [j:fq f] {v:ν} {b:AV} [Rw (g v) b] {k:List (κ×ν)->Option Out} {k':List (κ×ν)->Option T} [h:∀m,Im E (k' m) (k m)]:Im E (AT (x6 l key v) k') (Z1 (Wf a b (fK ⟨κ,f⟩ ⟨ν,g⟩ l).1 (fK ⟨κ,f⟩ ⟨ν,g⟩ l).2) λp=>uE (fK ⟨κ,f⟩ ⟨ν,g⟩) p k):=⟨by
 rw[<-Rw.e (a:=f key) (b:=a)];exact @I_put T E ⟨κ,f⟩ ⟨ν,g⟩ _ j i l key b v k k' (Rw.e (a:=g v)).symm λm=>(h m).p⟩
instance [EnR κ f] [EnR ν g]:Rw l.length (fK ⟨κ,f⟩ ⟨ν,g⟩ l).1.length:=⟨by simp[fK]⟩
end
def UM {α:Type} {enc:α->List AV} [fq enc] {t:TypeId} {pre:List SV} {q:Nat} {x:List α} {k:List α->Option Out}:(Jp t pre q (.box t (pre++[.pv (.dG q (List.map enc x))])) λc=>uE (List.map enc) c k)=k x:=by
 have key:∀w:List (List AV),Ob.box t (pre++[.pv (.dG q (List.map enc x))])= .box t (pre++[.pv (.dG q w)])->List.map enc x=w:=by intro w e;simp only[Ob.box.injEq,eH] at e;have e:=List.append_cancel_left e;simpa only[cV,SV.pv.injEq,AV.dG.injEq,eH,eP] using e
 have h:∃xs,Ob.box t (pre++[.pv (.dG q (List.map enc x))])= .box t (pre++[.pv (.dG q xs)]):=⟨_,rfl⟩
 unfold Jp;rw[kB h,<-key _ h.choose_spec];show uE (List.map enc) (List.map enc x) k=k x;rw[mc]
noncomputable def iL {α:Type} (t:TypeId) (pre:List SV) (q:Nat) (enc:α->List AV) [fq enc]:It (List α):=⟨λxs=> .box t (pre++[.pv (.dG q (xs.map enc))]),λo k=>Jp t pre q o λc=>uE (List.map enc) c k,λ_ _=>UM⟩
class Gn {α:Type} (G:α->Out):Prop
class Ry {α:Type} (l:List α) (f g:outParam (α->List AV)):Prop where
 e:f=g
section
variable {T:Type} {E:T->Out} {c c':Option Out}
instance mGetX {α:Type} {f g:α->List AV} {l:List α} [x:Ry l f g] [fq g] {i q:Int} [Rw q i] {k:α->Option Out} {k':α->Option T} [h:∀x,Im E (k' (tl g x)) (k x)]:Im E (bf l q k') (bf (l.map f) i λr=>uE g r k):=⟨by
 rw[Rw.e (a:=q) (b:=i)];exact IgX x.e λx=>(h x).p⟩
variable [Rw c' c]
instance mGen {U:Type} {G:U->Out} [Gn G] [fq G] {k:U->Option Out} {k':U->Option T} [h:∀y,Im E (k' y) (k y)]:Im E (Option.bind (dec G c') k') (Me G c k):=⟨by
 rw[Rw.e (a:=c') (b:=c)];exact A4 (jM _ _) λy=>(h y).p⟩
instance mGen2 {U V:Type} {G:U×V->Out} [Gn G] [fq G] {k:U->V->Option Out} {k':U->V->Option T} [h:∀y v,Im E (k' y v) (k y v)]:Im E (qs (dec G c') k') (genK2 G c k):=⟨by
 rw[Rw.e (a:=c') (b:=c)];exact FR (jM _ _) λy v=>(h y v).p⟩
instance mGen3 {U V W:Type} {G:U×V×W->Out} [Gn G] [fq G] {k:U->V->W->Option Out} {k':U->V->W->Option T} [h:∀y v w,Im E (k' y v w) (k y v w)]:Im E (eM (dec G c') k') (genK3 G c k):=⟨by
 rw[Rw.e (a:=c') (b:=c)];exact Je (jM _ _) λy v w=>(h y v w).p⟩
instance mGen4 {U V W X:Type} {G:U×V×W×X->Out} [Gn G] [fq G] {k:U->V->W->X->Option Out} {k':U->V->W->X->Option T} [h:∀y v w x,Im E (k' y v w x) (k y v w x)]:Im E (mJ (dec G c') k') (genK4 G c k):=⟨by
 rw[Rw.e (a:=c') (b:=c)];exact UE (jM _ _) λy v w x=>(h y v w x).p⟩
instance mGen5 {U V W X Y:Type} {G:U×V×W×X×Y->Out} [Gn G] [fq G] {k:U->V->W->X->Y->Option Out} {k':U->V->W->X->Y->Option T} [h:∀y v w x z,Im E (k' y v w x z) (k y v w x z)]:Im E (Js (dec G c') k') (genK5 G c k):=⟨by
 rw[Rw.e (a:=c') (b:=c)];exact I_gen5 (jM _ _) λy v w x z=>(h y v w x z).p⟩
end
