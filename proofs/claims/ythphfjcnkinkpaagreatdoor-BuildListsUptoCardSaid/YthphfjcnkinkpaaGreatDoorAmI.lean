/- THE ABSTRACT MACHINE. -/
import Derived.Test.YthphfjcnkinkpaaGreatDoorAmT
set_option linter.all false
open Go.IntKind (wrap)
open Int (toNat)
namespace Go.AM
class fA {T α:Type} (enc:T->α):Prop where
 inj:∀a b,enc a=enc b->a=b
def dO (k:IntKind) (a:Int):List AV:=[.int k a]
def oM (s:List UInt8):List AV:=[.str s]
def Xp (b:Bool):List AV:=[.bool b]
def lu {T:Type} (q:Nat) (enc:T->List AV) (l:List T):List AV:=[.dD q (l.map enc)]
def map_inj {T α:Type} {enc:T->α} (h:∀a b,enc a=enc b->a=b):∀(l m:List T),l.map enc=m.map enc->l=m:=by intro l;induction l with
 |nil=>intro m q;cases m with
  |nil=>rfl
  |cons x m=>simp at q
 |cons x l w=>intro m q;cases m with
  |nil=>simp at q
  |cons y m=>simp only[bH,cR] at q;rw[h _ _ q.1,w _ q.2]
instance {k:IntKind}:fA (dO k):=⟨λa b h=>by simpa[dO] using h⟩
instance:fA oM:=⟨λa b h=>by simpa[oM] using h⟩
instance:fA Xp:=⟨λa b h=>by simpa[Xp] using h⟩
instance {T α:Type} {enc:T->α} [fA enc]:fA (List.map enc):=⟨map_inj fA.inj⟩
instance {T:Type} {sz:Nat} {enc:T->List AV} [fA enc]:fA (lu sz enc):=⟨λa b h=>by
 simp only[lu,cR,AV.dD.injEq,eH,ew] at h
 exact map_inj fA.inj _ _ h⟩
section
variable {R:Type}
def lX {α T:Type} {enc:T->α} [fA enc] (d:T) (k:T->Option R):uJ enc (enc d) k=k d:=asE_pos fA.inj d k
def R6 (r:AV) (k:AV->Option R):yH (some (r,[])) k=k r:=Zj rfl k
def Sb (q e w:Nat) (r:AV) (xs:List (List AV)) (k:AV->List (List AV)->Option R):HA (some (r,[(q, .row e w xs)])) q e w k=k r xs:=Zl rfl k
def vv {α:Type} [Inhabited α] {l:List α} {i:Nat} (h:i<l.length) (k:α->Option R):bq l (i:Int) k=k (l.getD i default):=
 iI (by rw[aM h,bw,aM h];rfl) k
def yM {α:Type} [Inhabited α] {l:List α} {i:Int} (q:0<=i) (h:i<l.length) (k:α->Option R):bq l i k=k (l.getD i.toNat default):=by obtain⟨n,rfl⟩:=fU q;exact vv af k
def XB {α:Type} [Inhabited α] {l:List α} {i:Nat} (h:i<l.length) (k:α->Option R):eC l i k=k (l.getD i default):=
 kS (by rw[aM h,bw,aM h];rfl) k
end
def aat (n:Int):wrap .i64 n=if 9223372036854775808<=n % 18446744073709551616 then n % 18446744073709551616-18446744073709551616 else n % 18446744073709551616:=by show(if(true&&decide (n % 18446744073709551616>=9223372036854775808))=true then n % 18446744073709551616-18446744073709551616 else n % 18446744073709551616)=_;simp only[iz,pS,ge_iff_le]
theorem gi {n:Int} (q: -9223372036854775808<=n) (w:n<=9223372036854775807):wrap .i64 n=n:=by rw[aat];split<;>omega
def W8 (n:Int):wrap .u64 n=n % 18446744073709551616:=by show(if(false&&decide (n % 18446744073709551616>=9223372036854775808))=true then n % 18446744073709551616-18446744073709551616 else n % 18446744073709551616)=_;simp
theorem AX {n:Int} (q:0<=n) (w:n<=18446744073709551615):wrap .u64 n=n:=by rw[W8];omega
def bM {i:Nat} (h:i<4611686018427387904):wrap .i64 ((i:Int)+1)=((i+1:Nat):Int):=by rw[gi af af];omega
def cond_pos {α:Type} {b:Bool} (h:b=true) (x y:α):cond b x y=x:=by subst h;rfl
def cond_neg {α:Type} {b:Bool} (h:b=false) (x y:α):cond b x y=y:=by subst h;rfl
end Go.AM
namespace Go.AM
def CE (a:List UInt8):Op.bytesLess a a=false:=by induction a with
 |nil=>rfl
 |cons x a q=>simp[Op.bytesLess,q]
theorem BI:∀(a b:List UInt8),Op.bytesLess a b=false->a≠b->Op.bytesLess b a=true:=by intro a;induction a with
 |nil=>intro b h q;cases b with
  |nil=>exact absurd rfl q
  |cons y b=>simp[Op.bytesLess] at h
 |cons x a B=>intro b h q;cases b with
  |nil=>rfl
  |cons y b=>
   simp only[Op.bytesLess,fT,aS,Bool.and_eq_false_iff] at h;simp only[Op.bytesLess,gx,pS,aU,iV];by_cases e:x=y
   .subst e;refine .inr ⟨rfl,B b (h.2.resolve_left ai) λe=>q (by rw[e])⟩
   .refine .inl ?_;have z:=h.1;simp only[EA] at z⊢
    have:x.toNat≠y.toNat:=λw=>e (UInt8.toNat.inj w)
    omega
theorem vS:∀(a b c:List UInt8),Op.bytesLess a b=true->Op.bytesLess b c=true->Op.bytesLess a c=true:=by intro a;induction a with
 |nil=>intro b c w q;cases c with
  |nil=>simp[Op.bytesLess] at q
  |cons z c=>rfl
 |cons x a B=>intro b c w q;cases b with
  |nil=>simp[Op.bytesLess] at w
  |cons y b=>cases c with
   |nil=>simp[Op.bytesLess] at q
   |cons z c=>
    simp only[Op.bytesLess,gx,pS,aU,iV,EA] at w q⊢;rcases w with w|⟨rfl,w⟩
    .rcases q with q|⟨rfl,q⟩
     .exact .inl af
     .exact .inl w
    .rcases q with q|⟨rfl,q⟩
     .exact .inl q
     .exact .inr ⟨rfl,B b c w q⟩
theorem BH {a b:List UInt8} (h:Op.bytesLess a b=true):Op.bytesLess b a=false:=by cases e:Op.bytesLess b a with
 |false=>rfl
 |true=>have:=vS _ _ _ h e;rw[CE] at this;cases this
section
variable {α:Type} (lt:α->α->Bool)
def sj (x:α):List α->List α
 |[]=>[x]
 |y::l=>if lt x y=true then x::y::l else y::sj x l
def mK (l:List α):Prop:=l.Pairwise λa b=>lt b a=false
def VI {x:α} {p q:List α} (w:∀y∈p,lt x y=false) (B:∀y∈q,lt x y=true):sj lt x (p++q)=p++x::q:=by induction p with
 |nil=>cases q with
  |nil=>rfl
  |cons y q=>simp only[dK,sj];rw[aB (B y (gm ..))]
 |cons y p F=>simp only[gF,sj];rw[az (by simp[w y (gm ..)]),F λz D=>w z (dz _ D)]
def Tb {x y:α}:∀{l:List α},y∈sj lt x l↔y=x\/y∈l:=by intro l;induction l with
 |nil=>simp[sj]
 |cons z l q=>
  simp only[sj];split
  .simp
  .simp only[aN,q];constructor
   .rintro (h|h|h)<;>simp[h]
   .rintro (h|h|h)<;>simp[h]
def Ta {x:α}:∀{l:List α},(sj lt x l).length=l.length+1:=by intro l;induction l with
 |nil=>rfl
 |cons y l q=>simp only[sj];split<;>simp[q]
theorem BY (q:∀a b,lt a b=true->lt b a=false) (up:∀x y z,lt x y=true->lt z y=false->lt x z=true) {x:α}:∀{l:List α},mK lt l->mK lt (sj lt x l):=by intro l;induction l with
 |nil=>intro _;simp[sj,mK]
 |cons y l D=>
  intro B;simp only[mK,dN] at B;simp only[sj];split
  .rename_i h;simp only[mK,dN,aN];refine⟨λz w=> ?_,B⟩;rcases w with rfl|w
   .exact q _ _ h
   .exact q _ _ (up _ _ _ h (B.1 z w))
  .rename_i h;simp only[mK,dN];refine⟨λz w=> ?_,D B.2⟩;rcases(Tb lt).1 w with rfl|w
   .simpa using h
   .exact B.1 z w
def tO (l:List α):List α:=l.foldl (λout x=>sj lt x out) []
end
end Go.AM
namespace Go.AM
abbrev Out:Type:=AV×List (Nat×Ob)
noncomputable def dec {T:Type} (E:T->Out) (c:Option Out):Option T:=
 match c with
 |some r=>open Classical in if h:∃x,E x=r then some h.choose else none
 |none=>none
def mD {T:Type} (E:T->Out) (c:Option Out) (t:Option T):Prop:=∀x,t=some x->c=some (E x)
def iZ {T:Type} (E:T->Out) (c:Option Out):mD E c (dec E c):=by intro x q;cases c with
 |none=>simp[dec] at q
 |some r=>
  simp only[dec] at q;split at q
  .grind
  simp_all
def yK {T:Type} {E:T->Out} [fA E] {c:Option Out} {x:T} (h:c=some (E x)):dec E c=some x:=by
 subst h;have q:∃y,E y=E x:=⟨x,rfl⟩
 simp[dec,kC q];rw[fA.inj _ _ q.choose_spec]
section
variable {T:Type} {E:T->Out}
def xV {c:Out} {x:T} (h:c=E x):mD E (some c) (some x):=by intro y q;simp_all
def vN {c c':Bool} {a b:Option Out} {q w:Option T} (D:c=c') (z:mD E a q) (B:mD E b w):mD E (bif c then a else b) (bif c' then q else w):=by grind
def Sg {R:Type} {p:Prop} [Decidable p] {a:Option R} {x:R} (h:check p a=some x):p/\a=some x:=by simp_all[check]
def nS {R:Type} {p:Prop} [Decidable p] {a:Option R} (h:p):check p a=a:=by unfold check;simp_all
def iS {p q:Prop} [Decidable p] [Decidable q] {a:Option Out} {w:Option T} (z:q->p) (h:mD E a w):mD E (check p a) (check q w):=by intro x B;have:=Sg B;rw[nS (z this.1)];exact h _ this.2
theorem aaP {α β:Type} {enc:α->β} [fA enc] {L:List β} {l:List α} {i:Int} {k:α->Option Out} {k':α->Option T} (z:L=l.map enc) (h:∀x,mD E (k x) (k' x)):
  mD E (bq L i λc=>uJ enc c k) (bq l i k'):=by
 subst z;intro x q;unfold bq at q⊢;split at q
 .rename_i w;rw[dA];cases e:l[i.toNat]? with
  |none=>simp_all
  |some y=>rw[e] at q;simp[e9,aB w];rw[lX];exact h _ _ q
 simp_all
def aaQ {α β:Type} {enc:α->β} [fA enc] {L:List β} {l:List α} {i:Nat} {k:α->Option Out} {k':α->Option T} (w:L=l.map enc) (h:∀x,mD E (k x) (k' x)):
  mD E (eC L i λc=>uJ enc c k) (eC l i k'):=by
 subst w;intro x q;unfold eC at q⊢;rw[dA];cases e:l[i]? with
 |none=>simp_all
 |some y=>rw[e] at q;simp;rw[lX];exact h _ _ q
def I_getKx {α β:Type} {enc:α->β} [fA enc] {L:List β} {l:List α} {i q:Int} {k:α->Option Out} {k':α->Option T} (z:L=l.map enc) (w:i=q) (h:∀x,mD E (k x) (k' x)):
  mD E (bq L i λc=>uJ enc c k) (bq l q k'):=by
 subst w;exact aaP z h
def I_getNx {α β:Type} {enc:α->β} [fA enc] {L:List β} {l:List α} {i q:Nat} {k:α->Option Out} {k':α->Option T} (z:L=l.map enc) (w:i=q) (h:∀x,mD E (k x) (k' x)):
  mD E (eC L i λc=>uJ enc c k) (eC l q k'):=by
 subst w;exact aaQ z h
def I_getb {α:Type} {l:List α} {i:Int} {k:α->Option Out} {k':α->Option T} (h:∀x,mD E (k x) (k' x)):mD E (bq l i k) (bq l i k'):=by
 intro x q;unfold bq at q⊢;split at q
 .rename_i w;rw[aB w];cases e:l[i.toNat]? with
  |none=>simp_all
  |some y=>rw[e] at q;exact h _ _ q
 simp_all
def bind_some {α β:Type} {f:Option α} {k:α->Option β} {x:β} (h:Option.bind f k=some x):∃y,f=some y/\k y=some x:=by cases f with
 |none=>simp at h
 |some y=>simp_all
def DM {U:Type} {enc:U->AV} [fA enc] {q:U->Out} {c:Option Out} {f:Option U} {k:U->Option Out} {k':U->Option T} (D:mD q c f) (h:∀y,mD E (k y) (k' y)) (B:∀y,q y=(enc y,[]):=by intro _;rfl):
  mD E (yH c λr=>uJ enc r k) (Option.bind f k'):=by
 intro x F;obtain⟨y,w,z⟩:=bind_some F;rw[D _ w,B,R6,lX];exact h _ _ z
def Di {U V R:Type} (f:Option (U×V)) (k:U->V->Option R):Option R:=f.bind λp=>k p.1 p.2
def eV {U V W R:Type} (f:Option (U×V×W)) (k:U->V->W->Option R):Option R:=f.bind λp=>k p.1 p.2.1 p.2.2
def mA {q w z B R:Type} (f:Option (q×w×z×B)) (k:q->w->z->B->Option R):Option R:=f.bind λp=>k p.1 p.2.1 p.2.2.1 p.2.2.2
def JU {q w z B D R:Type} (f:Option (q×w×z×B×D)) (k:q->w->z->B->D->Option R):Option R:=f.bind λp=>k p.1 p.2.1 p.2.2.1 p.2.2.2.1 p.2.2.2.2
def RV {q w z B D F R:Type} (f:Option (q×w×z×B×D×F)) (k:q->w->z->B->D->F->Option R):Option R:=f.bind λp=>k p.1 p.2.1 p.2.2.1 p.2.2.2.1 p.2.2.2.2.1 p.2.2.2.2.2
def mw {U V R:Type} (a:U) (b:V) (k:U->V->Option R):Di (some (a,b)) k=k a b:=rfl
def bG {U V W R:Type} (a:U) (b:V) (c:W) (k:U->V->W->Option R):eV (some (a,b,c)) k=k a b c:=rfl
def I_callR {U V:Type} {enc:U->AV} [fA enc] {q:V->List AV} [fA q] {z e B:Nat} {w:U×List V->Out} {c:Option Out} {f:Option (U×List V)} {k:U->List V->Option Out} {k':U->List V->Option T}
  (H:mD w c f) (h:∀y xs,mD E (k y xs) (k' y xs)) (G:∀y,w y=(enc y.1,[(z, .row e B (y.2.map q))]):=by intro _;rfl):
  mD E (HA c z e B λr c2=>uJ enc r λy=>uJ (List.map q) c2 λxs=>k y xs) (Di f k'):=by
 intro x I;obtain⟨y,D,F⟩:=bind_some I;rw[H _ D,G,Sb,lX,lX];exact h _ _ _ F
end
section
variable {α R:Type}
def dY {l:List α} {i:Nat} {x:α} {xs:List α} (h:l.drop i=x::xs):i<l.length:=by have:=aP List.length h;grind
def mI {l:List α} {i:Nat} (h:l.drop i=[]):l.length<=i:=by simp_all
def cr {l:List α} {i:Nat} {x:α} {xs:List α} (h:l.drop i=x::xs):l[i]? =some x:=by have:=aP (λm=>m[0]?) h;grind
def aI {l:List α} {i:Nat} {x:α} {xs:List α} (h:l.drop i=x::xs):l.drop (i+1)=xs:=by have:=aP (List.drop 1) h;grind[List.drop_drop]
def aT {l:List α} {i:Nat} {x:α} {xs:List α} (h:l.drop i=x::xs):decide ((i:Int)<(l.length:Int))=true:=by have:=dY h;simp_all
theorem bp {l:List α} {i:Nat} (h:l.drop i=[]):decide ((i:Int)<(l.length:Int))=false:=by simp_all
def aK {l:List α} {i:Nat} {x:α} {xs:List α} (h:l.drop i=x::xs) (k:α->Option R):bq l (i:Int) k=k x:=iI (cr h) k
theorem oa {l:List α} {i:Nat} {x:α} {xs:List α} (h:l.drop i=x::xs) (k:α->Option R):eC l (toNat (i:Int)) k=k x:=by exact kS (cr h) k
def od {l:List α} {i:Nat} {x:α} {xs:List α} (h:l.drop i=x::xs) (a:Option R):check (0<=(i:Int)/\toNat (i:Int)<l.length) a=a:=
 bW ⟨af,by exact dY h⟩ a
def aQ {l:List α} {i:Nat} {x:α} {xs:List α} (h:l.drop i=x::xs) (q:l.length<=1073741824):wrap .i64 ((i:Int)+1)=((i+1:Nat):Int):=
 bM (by have:=dY h;omega)
def cC {n m c:Nat} (a:Option R) (h:n<=1073741824) (z:m<=1073741824) (q:c<=1024):check ((n+m) *c<=140737488355328/\n+m<=4611686018427387904) a=a:=by refine bW ⟨?_,af⟩ a;have w:(n+m) *c<=(n+m) *1024:=Bz _ q;omega
def EX {l:List α} {i:Nat} (h:i<=l.length) (a:Option R):check (0<=(i:Int)/\(i:Int)<=((l.length:Nat):Int)) a=a:=bW ⟨af,af⟩ a
def qq {n:Nat} (h:n<=1073741824):wrap .i64 (((n+1:Nat):Int)-1)=(n:Int):=by grind[gi]
def ja (p:α->Bool):List α->Nat->Int
 |[],_=> -1
 |x::xs,i=>if p x then(i:Int) else ja p xs (i+1)
theorem aj {α β:Type} (a:α) (k:α->Option β):Option.bind (some a) k=k a:=rfl
def cH {l:List α} {i:Nat} (h:i<l.length) (k:α->Option R):bq l (i:Int) k=k l[i]:=iI (aM h) k
def se {l:List α} {i:Nat} (h:i<l.length) (k:α->Option R):eC l i k=k l[i]:=kS (aM h) k
def BR {l:List α} {i:Nat} (h:i<l.length) (a:Option R):check (0<=(i:Int)/\toNat (i:Int)<l.length) a=a:=
 bW ⟨af,af⟩ a
end
def EN {U:Type} (enc:U->AV):U->Out:=λx=>(enc x,[])
instance {U:Type} {enc:U->AV} [fA enc]:fA (EN enc):=⟨λa b h=>fA.inj _ _ (aP Prod.fst h)⟩
section
variable {T:Type} {E:T->Out}
def Is {x:T}:mD E (some (E x)) (some x):=xV rfl
def Iz {c:Option Out}:mD E c (dec E c):=iZ _ _
def Ic {c:Bool} {a b:Option Out} {q w:Option T} (z:mD E a q) (B:mD E b w):mD E (bif c then a else b) (bif c then q else w):=vN rfl z B
def Ig {α β:Type} (enc:α->β) [fA enc] {l:List α} {i:Int} {k:α->Option Out} {k':α->Option T} (h:∀x,mD E (k x) (k' x)):mD E (bq (l.map enc) i λc=>uJ enc c k) (bq l i k'):=aaP rfl h
def In {α β:Type} (enc:α->β) [fA enc] {l:List α} {i:Nat} {k:α->Option Out} {k':α->Option T} (h:∀x,mD E (k x) (k' x)):mD E (eC (l.map enc) i λc=>uJ enc c k) (eC l i k'):=aaQ rfl h
def Ik {U:Type} {enc:U->AV} [fA enc] {c:Option Out} {k:U->Option Out} {k':U->Option T} (h:∀y,mD E (k y) (k' y)):mD E (yH c λr=>uJ enc r k) (Option.bind (dec (EN enc) c) k'):=DM (iZ _ _) h
end
def qt {T:Type} {E:T->Out} [fA E] {raw body c:Option Out} {t:Option T} {r:T} (z:t=some r) (q:mD E raw t) (w:body=raw) (h:∀{r:Out},body=some r->c=some r):dec E c=some r:=
 yK (h (w.trans (q _ z)))
class ID (K:xU):Prop where
 is:∀a b:K.T,∃(inst:Decidable (a=b)),xC (K.enc a) (K.enc b)=some (decide (a=b))
section
variable {R:Type}
noncomputable def FC {K V:Type} (l:List (K×V)) (key:K):Option Nat:=open Classical in l.findIdx? λp=>decide (key=p.1)
noncomputable def yt {K V:Type} (l:List (K×V)) (key:K) (v:V):List (K×V):=match FC l key with
 |some i=>l.set i (key,v)
 |none=>l++[(key,v)]
noncomputable def getM {K V:Type} (l:List (K×V)) (key:K):Option V:=(FC l key).bind λi=>(l[i]?).map (·.2)
noncomputable def A7 {K V:Type} (l:List (K×V)) (key:K) (k:V->Option R) (z:Option R):Option R:=match getM l key with
 |some v=>k v
 |none=>z
def Bm {α:Type} (x:α) (k:α->Option R):Option R:=k x
end
theorem NG {K:xU} [ID K] {V:Type} (key:K.T):∀l:List (K.T×V),xD (K.enc key) (l.map λp=>K.enc p.1)=some (FC l key):=by intro l;induction l with
 |nil=>rfl
 |cons p l q=>
  obtain⟨inst,h⟩:=ID.is (K:=K) _ _;rw[bH,xD,h];unfold FC;rw[uU];by_cases e:key=p.1
  .simp[e]
  .simp[q,e];rfl
theorem Ys {K V:Type} {l:List (K×V)} {key:K} {i:Nat} (h:FC l key=some i):∃q:i<l.length,(l[i]'q).1=key:=by unfold FC at h;rw[zB] at h;grind
def vX {K V:xU} [fA K.enc] [fA V.enc]:∀{a b:List (K.T×V.T)},(fI K V a).1=(fI K V b).1->(fI K V a).2=(fI K V b).2->a=b:=by intro a;induction a with
 |nil=>simp_all[fI]
 |cons x a z=>intro b h q;cases b with
  |nil=>simp[fI] at h
  |cons y b=>simp[fI,bH,cR] at h q;obtain⟨B,D⟩:=x;obtain⟨F,G⟩:=y;have e1:B=F:=fA.inj _ _ h.1;have w:D=G:=fA.inj _ _ q.1;rw[e1,w,z h.2 q.2]
instance {K V:xU} [fA K.enc] [fA V.enc]:fA (fI K V):=⟨λa b h=>vX (aP Prod.fst h) (aP Prod.snd h)⟩
def adE {K V:xU} [ID K] (key:K.T) (l:List (K.T×V.T)):Wg (K.enc key) (fI K V l).1 (fI K V l).2=some ((getM l key).map V.enc):=by unfold Wg fI getM;grind[NG,Ys]
theorem Ui {K V:xU} {l:List (K.T×V.T)} {key:K.T} {v:V.T} {i:Nat} (h:FC l key=some i):fI K V (l.set i (key,v))=((fI K V l).1,(fI K V l).2.set i (V.enc v)):=by
 obtain⟨q,e⟩:=Ys h;unfold fI;rw[cD];constructor
 .apply nF
  .simp
  grind
 simp
def adH {K V:xU} [ID K] (key:K.T) (v:V.T) (l:List (K.T×V.T)):Wj (K.enc key) (V.enc v) (fI K V l).1 (fI K V l).2=some (fI K V (yt l key v)):=by grind[fI,NG,Wj,yt,Ui]
section
variable {T:Type} {E:T->Out}
def I_look {K V:xU} [ID K] [fA V.enc] {l:List (K.T×V.T)} {key:K.T} {k:V.T->Option Out} {k':V.T->Option T} {z:Option Out} {w:Option T} (h:∀y,mD E (k y) (k' y)) (B:mD E z w):
  mD E (NB (Wg (K.enc key) (fI K V l).1 (fI K V l).2) (λv=>uJ V.enc v k) z) (A7 l key k' w):=by
 intro x q;unfold A7 at q;unfold NB;rw[adE];cases e:getM l _ with
 |none=>rw[e] at q;exact B _ q
 |some v=>rw[e] at q;simp;rw[lX];exact h _ _ q
def I_put {K V:xU} [ID K] [fA K.enc] [fA V.enc] {l:List (K.T×V.T)} {key:K.T} {a:AV} {v:V.T} {k:List (K.T×V.T)->Option Out} {k':List (K.T×V.T)->Option T} (q:a=V.enc v) (h:∀m,mD E (k m) (k' m)):
  mD E (aae (Wj (K.enc key) a (fI K V l).1 (fI K V l).2) λp=>uJ (fI K V) p k) (Bm (yt l key v) k'):=by
 subst q;intro x w;unfold aae;rw[adH];simp[lX];exact h _ _ w
def kq {A:Type} (enc:A->List AV) (k:Nat):A->List AV:=λx=>(enc x).set k .hole
abbrev qf {V:Type} (enc:V->List AV):List (Option (List V))->List (Option (List (List AV))):=List.map (Option.map (List.map enc))
instance {V:Type} (enc:V->List AV) [fA enc]:fA (qf enc):=⟨λa b h=>by
 refine map_inj (λx y e=> ?_) _ _ h;cases x<;>cases y<;>simp at e⊢
 exact map_inj fA.inj _ _ e⟩
instance {V:Type} (enc:V->List AV) [fA enc]:fA (List.map (Option.map (List.map enc))):=inferInstanceAs (fA (qf enc))
def Wv {R V:Type} (q:List (Option (List V))) (i:Nat) (k:List V->List (Option (List V))->Option R):Option R:=match q[i]? with
 |some (some w)=>k w (q.set i none)
 |_=>none
def uI {q A V:Type} (rF:q->List V->A):List q->List (Option (List V))->Option (List A)
 |[],[]=>some []
 |x::xs,some y::w=>(uI rF xs w).map (rF x y:: ·)
 |_,_=>none
def yD {R q A V:Type} (rF:q->List V->A) (xs:List q) (w:List (Option (List V))) (k:List A->Option R):Option R:=match uI rF xs w with
 |some l=>k l
 |none=>none
def I_out {V:Type} {enc:V->List AV} [fA enc] {Y:List (Option (List V))} {i:Nat} {k:List V->List (Option (List V))->Option Out} {k':List V->List (Option (List V))->Option T} (h:∀q y,mD E (k q y) (k' q y)):
  mD E (Z7 (qf enc Y) i λc=>uJ (List.map enc) c λq=>uJ (qf enc) ((qf enc Y).set i none) λy=>k q y) (Wv Y i k'):=by
 intro x w;unfold Wv at w;split at w
 .rename_i q B;have e1:(qf enc Y)[i]? =some (some (q.map enc)):=by simp[B]
  have z:(qf enc Y).set i none=qf enc (Y.set i none):=by rw[qf,uV];rfl
  unfold Z7;rw[e1];simp only;rw[lX,z,lX];exact h _ _ _ w
 simp_all
def aaR {V:Type} {enc:V->List AV} [fA enc] {Y:List (Option (List V))} {i:Nat} {L:List (List AV)} {q:List V} {k:List (Option (List V))->Option Out} {k':List (Option (List V))->Option T} (z:L=q.map enc) (h:∀y,mD E (k y) (k' y)):
  mD E (check (i<(qf enc Y).length) (uJ (qf enc) ((qf enc Y).set i (some L)) k)) (check (i<Y.length) (Bm (Y.set i (some q)) k')):=by
 subst z;refine iS ai ?_;have w:(qf enc Y).set i (some (q.map enc))=qf enc (Y.set i (some q)):=by rw[qf,uV];rfl
 rw[w,lX];exact h _
def M4 {B A V:Type} {w:B->List AV} {enc:A->List AV} {q:V->List AV} {rF:B->List V->A} {k s:Nat} (G:∀x z,(w x).set k (.dD s (z.map q))=enc (rF x z)):∀{xs:List B} {F:List (Option (List V))} {l:List A},uI rF xs F=some l->
  ∃c,qD (qf q F)=some c/\wP k s (xs.map w) c=l.map enc
 |[],[],l,h=>by simp[uI,bg] at h;subst h;exact⟨[],rfl,rfl⟩
 |x::xs,some y::F,l,h=>by simp[uI,cL] at h;obtain⟨K,D,rfl⟩:=h;obtain⟨c,H,I⟩:=M4 G D;simp_all[qD,wP]
 |[],_::_,l,h=>by simp[uI] at h
 |_::_,[],l,h=>by simp[uI] at h
 |_::_,none::_,l,h=>by simp[uI] at h
def DL {w A V:Type} {DX:w->List AV} {enc:A->List AV} [fA enc] {Ad:V->List AV} {rF:w->List V->A} {q s:Nat} {xs:List w} {D:List (Option (List V))} {k:List A->Option Out} {k':List A->Option T} (h:∀m,mD E (k m) (k' m))
  (I:∀x z,(DX x).set q (.dD s (z.map Ad))=enc (rF x z):=by intro _ _;rfl):
  mD E (UT (qD (qf Ad D)) λc=>uJ (List.map enc) (wP q s (xs.map DX) c) k) (yD rF xs D k'):=by
 intro x B;unfold yD at B;split at B
 .rename_i m H;obtain⟨c,F,G⟩:=M4 I H;unfold UT;rw[F];simp only;rw[G,lX];exact h _ _ B
 simp_all
def JN {A V:Type} {q:A->List AV} {rF:A->List V->A} {sub:A->List V} (D:∀x z,q (rF x z)=q x) (F:∀x z,sub (rF x z)=z):∀{xs:List A} {B:List (Option (List V))} {l:List A},uI rF xs B=some l->
  xs.map q=l.map q/\B=l.map λx=>some (sub x)
 |[],[],l,h=>by simp[uI] at h;simp_all
 |x::xs,some y::B,l,h=>by simp[uI,cL] at h;obtain⟨I,w,rfl⟩:=h;obtain⟨G,H⟩:=JN D F w;simp_all
 |[],_::_,l,h=>by simp[uI] at h
 |_::_,[],l,h=>by simp[uI] at h
 |_::_,none::_,l,h=>by simp[uI] at h
def I_endN {A V:Type} {DX:A->List AV} {Ad:V->List AV} {rF:A->List V->A} (sub:A->List V) {xs:List A} {w:List (Option (List V))} {F:List (List AV)->List (Option (List (List AV)))->Out} {k':List A->Option T}
  (h:∀l:List A,mD E (some (F (l.map DX) (qf Ad (l.map λx=>some (sub x))))) (k' l)) (G:∀x z,DX (rF x z)=DX x:=by intro _ _;rfl) (I:∀x z,sub (rF x z)=z:=by intro _ _;rfl):
  mD E (some (F (xs.map DX) (qf Ad w))) (yD rF xs w k'):=by
 intro x q;unfold yD at q;split at q
 .rename_i m H;obtain⟨B,D⟩:=JN G I H;rw[B,D];exact h _ _ q
 simp_all
def WK {A V:Type} {q:A->List AV} {Ad:V->List AV} [fA Ad] {sub:A->List V} (w:∀a b,q a=q b->sub a=sub b->a=b):∀{x y:List A},x.map q=y.map q->qf Ad (x.map λa=>some (sub a))=qf Ad (y.map λa=>some (sub a))->x=y
 |[],[],_,_=>rfl
 |[],_::_,h,_=>by simp at h
 |_::_,[],h,_=>by simp at h
 |a::x,b::y,h,k=>by simp at h;have k:=fA.inj _ _ k;simp at k;rw[w a b h.1 k.1,WK (Ad:=Ad) w h.2 (by rw[k.2])]
def IgX {A:Type} {jD enc:A->List AV} (q:jD=enc) [fA enc] {xs:List A} {i:Int} {k:A->Option Out} {k':A->Option T} (h:∀x,mD E (k x) (k' x)):mD E (bq (List.map jD xs) i λc=>uJ enc c k) (bq xs i k'):=by subst q;exact Ig _ h
theorem aaO {V:Type} {enc:V->List AV} [fA enc] {Y Z:List (Option (List V))} {k:List (Option (List V))->Option Out} {k':List (Option (List V))->Option T} (h:∀y,mD E (k y) (k' y)):
  mD E (uJ (qf enc) (qf enc Y++qf enc Z) k) (Bm (Y++Z) k'):=by
 have e:qf enc Y++qf enc Z=qf enc (Y++Z):=ai;rw[e,lX];exact h _
def I_callM {U:Type} {q:U->Out} {c:Option Out} {f:Option U} {w:AV->List (Nat×Ob)->Option Out} {k':U->Option T} (D:mD q c f) (h:∀y,mD E (w (q y).1 (q y).2) (k' y)):mD E (BN c w) (Option.bind f k'):=by intro x F;obtain⟨y,z,B⟩:=bind_some F;rw[D _ z];unfold BN;exact h _ _ B
def yC {U:Type} {q:U->Out} [fA q] {c:Option Out} {f:Option U} {k:U->Option Out} {k':U->Option T} (B:mD q c f) (h:∀y,mD E (k y) (k' y)):mD E (MC q c k) (Option.bind f k'):=by intro x D;obtain⟨y,w,z⟩:=bind_some D;rw[B _ w];unfold MC;simp only;rw[lX];exact h _ _ z
noncomputable abbrev genK2 {U V R:Type} (q:U×V->Out) (c:Option Out) (k:U->V->Option R):Option R:=MC q c λp=>k p.1 p.2
noncomputable abbrev genK3 {U V W R:Type} (q:U×V×W->Out) (c:Option Out) (k:U->V->W->Option R):Option R:=MC q c λp=>k p.1 p.2.1 p.2.2
noncomputable abbrev genK4 {q w z B R:Type} (D:q×w×z×B->Out) (c:Option Out) (k:q->w->z->B->Option R):Option R:=MC D c λp=>k p.1 p.2.1 p.2.2.1 p.2.2.2
def JE {U V:Type} {q:U×V->Out} [fA q] {c:Option Out} {f:Option (U×V)} {k:U->V->Option Out} {k':U->V->Option T} (w:mD q c f) (h:∀y v,mD E (k y v) (k' y v)):mD E (genK2 q c k) (Di f k'):=
 yC w λp=>h _ _
def JF {U V W:Type} {q:U×V×W->Out} [fA q] {c:Option Out} {f:Option (U×V×W)} {k:U->V->W->Option Out} {k':U->V->W->Option T} (z:mD q c f) (h:∀y v w,mD E (k y v w) (k' y v w)):mD E (genK3 q c k) (eV f k'):=
 yC z λp=>h _ _ _
theorem UK {q z B D:Type} {F:q×z×B×D->Out} [fA F] {c:Option Out} {f:Option (q×z×B×D)} {k:q->z->B->D->Option Out} {k':q->z->B->D->Option T} (G:mD F c f) (h:∀y v w x,mD E (k y v w x) (k' y v w x)):mD E (genK4 F c k) (mA f k'):=
 yC G λp=>h _ _ _ _
noncomputable abbrev genK5 {q w z B D R:Type} (F:q×w×z×B×D->Out) (c:Option Out) (k:q->w->z->B->D->Option R):Option R:=MC F c λp=>k p.1 p.2.1 p.2.2.1 p.2.2.2.1 p.2.2.2.2
def I_gen5 {q w z B D:Type} {F:q×w×z×B×D->Out} [fA F] {c:Option Out} {f:Option (q×w×z×B×D)} {k:q->w->z->B->D->Option Out} {k':q->w->z->B->D->Option T} (G:mD F c f) (h:∀a b c d e,mD E (k a b c d e) (k' a b c d e)):mD E (genK5 F c k) (JU f k'):=
 yC G λp=>h _ _ _ _ _
end
end Go.AM
set_option synthInstance.maxSize 100000
set_option synthInstance.maxHeartbeats 1000000
namespace Go.AM
universe u v
class Rw {α:Sort u} (a:α) (b:outParam α):Prop where
 e:a=b
class IU (α:Type) (enc:outParam (α->List AV)):Prop
class En {α:Type} (l:List α) (enc:outParam (α->List AV)):Prop
def tl {α:Type} (enc:α->List AV) (x:α):α:=x
def tg {α:Type} (enc:α->AV) (x:α):α:=x
def tw {α:Type} (enc:α->List AV) (x:List α):List α:=x
class EnR (α:Type) (f:outParam (α->AV)):Prop
class Im {T:Type} (E:T->Out) (t:Option T) (c:outParam (Option Out)):Prop where
 p:mD E c t
section
instance (priority:=low) iSelf {α:Sort u} (a:α):Rw a a:=⟨rfl⟩
instance (priority:=low) iEn {α:Type} {enc:α->List AV} [IU α enc] (l:List α):En l enc:=⟨⟩
instance iEnE {β:Type} {x:List β} {s:Nat} {f:β->List AV}:En (tl (lu s f) x) f:=⟨⟩
section
variable {α:Type} {enc:α->List AV} {l m:List α}
instance [En l enc]:En (l++m) enc:=⟨⟩
instance [En l enc] {i:Nat} {x:α}:En (l.set i x) enc:=⟨⟩
instance [En l enc] {i:Nat}:En (l.take i) enc:=⟨⟩
instance [En l enc] {i:Nat}:En (l.drop i) enc:=⟨⟩
end
instance:IU Int (dO .i64):=⟨⟩
instance:IU (List UInt8) oM:=⟨⟩
instance:IU Bool Xp:=⟨⟩
instance:IU (List Int) (lu 1 (dO .i64)):=⟨⟩
instance:IU (List (List UInt8)) (lu 1 oM):=⟨⟩
variable {α:Type u} {β:Type v}
instance iCons {a q:α} {l w:List α} [Rw a q] [Rw l w]:Rw (a::l) (q::w):=⟨by cases Rw.e (a:=a) (b:=q);cases Rw.e (a:=l) (b:=w);rfl⟩
instance iPair {a q:α} {b w:β} [Rw a q] [Rw b w]:Rw (a,b) (q,w):=⟨by cases Rw.e (a:=a) (b:=q);cases Rw.e (a:=b) (b:=w);rfl⟩
instance iSet {f:α->β} {l:List α} {L:List β} {i q:Nat} {x:α} {y:β} [Rw (l.map f) L] [Rw i q] [Rw (f x) y]:Rw ((l.set i x).map f) (L.set q y):=⟨by cases Rw.e (a:=(l.map f)) (b:=L);cases Rw.e (a:=i) (b:=q);cases Rw.e (a:=(f x)) (b:=y);exact uV ..⟩
instance iApp {f:α->β} {l m:List α} {L M:List β} [Rw (l.map f) L] [Rw (m.map f) M]:Rw ((l++m).map f) (L++M):=⟨by cases Rw.e (a:=(l.map f)) (b:=L);cases Rw.e (a:=(m.map f)) (b:=M);exact cE ..⟩
instance iMc {f:α->β} {x:α} {y:β} {l:List α} {L:List β} [Rw (f x) y] [Rw (l.map f) L]:Rw ((x::l).map f) (y::L):=⟨by cases Rw.e (a:=(f x)) (b:=y);cases Rw.e (a:=(l.map f)) (b:=L);rfl⟩
instance iMn {f:α->β}:Rw (([]:List α).map f) []:=⟨rfl⟩
instance iTake {f:α->β} {l:List α} {L:List β} {n q:Nat} [Rw (l.map f) L] [Rw n q]:Rw ((l.take n).map f) (L.take q):=⟨by cases Rw.e (a:=(l.map f)) (b:=L);cases Rw.e (a:=n) (b:=q);exact List.map_take ..⟩
instance iDrop {f:α->β} {l:List α} {L:List β} {n q:Nat} [Rw (l.map f) L] [Rw n q]:Rw ((l.drop n).map f) (L.drop q):=⟨by cases Rw.e (a:=(l.map f)) (b:=L);cases Rw.e (a:=n) (b:=q);exact pV ..⟩
instance iRep {f:α->β} {n q:Nat} {x:α} {y:β} [Rw n q] [Rw (f x) y]:Rw ((List.replicate n x).map f) (List.replicate q y):=⟨by cases Rw.e (a:=n) (b:=q);cases Rw.e (a:=(f x)) (b:=y);exact uW ..⟩
instance iELst {U:Type} {s:Nat} {f:U->List AV} {l:List U} {L:List (List AV)} [Rw (l.map f) L]:Rw (lu s f l) [.dD s L]:=⟨by cases Rw.e (a:=(l.map f)) (b:=L);rfl⟩
instance iEInt {k:IntKind} {x y:Int} [Rw x y]:Rw (dO k x) [.int k y]:=⟨by cases Rw.e (a:=x) (b:=y);rfl⟩
instance {x y:AV} [Rw x y]:Rw (SV.pv x) (.pv y):=⟨by cases Rw.e (a:=x) (b:=y);rfl⟩
instance {k:IntKind} {x y:Int} [Rw x y]:Rw (AV.int k x) (.int k y):=⟨by cases Rw.e (a:=x) (b:=y);rfl⟩
instance {s:Nat} {x y:List (List AV)} [Rw x y]:Rw (AV.dD s x) (.dD s y):=⟨by cases Rw.e (a:=x) (b:=y);rfl⟩
instance {x y:Nat} [Rw x y]:Rw (AV.self x) (.self y):=⟨by cases Rw.e (a:=x) (b:=y);rfl⟩
instance {x y:List AV} [Rw x y]:Rw (AV.agg x) (.agg y):=⟨by cases Rw.e (a:=x) (b:=y);rfl⟩
instance {x y:List AV} [Rw x y]:Rw (AV.gU x) (.gU y):=⟨by cases Rw.e (a:=x) (b:=y);rfl⟩
instance {x y:Bool} [Rw x y]:Rw (AV.bool x) (.bool y):=⟨by cases Rw.e (a:=x) (b:=y);rfl⟩
instance {x y:List UInt8} [Rw x y]:Rw (AV.str x) (.str y):=⟨by cases Rw.e (a:=x) (b:=y);rfl⟩
instance {i s a b c d:Nat} [Rw a c] [Rw b d]:Rw (SV.sub i s a b) (.sub i s c d):=⟨by cases Rw.e (a:=a) (b:=c);cases Rw.e (a:=b) (b:=d);rfl⟩
instance {e s:Nat} {x y:List (List AV)} [Rw x y]:Rw (Ob.row e s x) (.row e s y):=⟨by cases Rw.e (a:=x) (b:=y);rfl⟩
instance {e:Nat} {x y:List SV} [Rw x y]:Rw (Ob.box e x) (.box e y):=⟨by cases Rw.e (a:=x) (b:=y);rfl⟩
instance {U:Type} {Q:U->AV} {x:U} {a:AV} [Rw (Q x) a]:Rw (EN Q x) (a,[]):=⟨by cases Rw.e (a:=Q x) (b:=a);rfl⟩
instance iLen {U:Type} {l:List U} {enc:U->List AV} {L:List (List AV)} [En l enc] [Rw (l.map enc) L]:Rw l.length L.length:=⟨by cases Rw.e (a:=(l.map enc)) (b:=L);exact(bf ..).symm⟩
instance {x y:Nat} [Rw x y]:Rw (x:Int) (y:Int):=⟨by cases Rw.e (a:=x) (b:=y);rfl⟩
instance {x y:Int} [Rw x y]:Rw (toNat x) (toNat y):=⟨by cases Rw.e (a:=x) (b:=y);rfl⟩
instance {k:IntKind} {x y:Int} [Rw x y]:Rw (wrap k x) (wrap k y):=⟨by cases Rw.e (a:=x) (b:=y);rfl⟩
instance [HAdd α α α] {a b q w:α} [Rw a q] [Rw b w]:Rw (a+b) (q+w):=⟨by cases Rw.e (a:=a) (b:=q);cases Rw.e (a:=b) (b:=w);rfl⟩
instance [HSub α α α] {a b q w:α} [Rw a q] [Rw b w]:Rw (a-b) (q-w):=⟨by cases Rw.e (a:=a) (b:=q);cases Rw.e (a:=b) (b:=w);rfl⟩
instance [HMul α α α] {a b q w:α} [Rw a q] [Rw b w]:Rw (a *b) (q *w):=⟨by cases Rw.e (a:=a) (b:=q);cases Rw.e (a:=b) (b:=w);rfl⟩
instance [LT α] {a b q w:α} [Rw a q] [Rw b w]:Rw (a<b) (q<w):=⟨by cases Rw.e (a:=a) (b:=q);cases Rw.e (a:=b) (b:=w);rfl⟩
instance [LE α] {a b q w:α} [Rw a q] [Rw b w]:Rw (a<=b) (q<=w):=⟨by cases Rw.e (a:=a) (b:=q);cases Rw.e (a:=b) (b:=w);rfl⟩
instance [LT α] {a b q w:α} [Rw a q] [Rw b w]:Rw (a>b) (q>w):=⟨by cases Rw.e (a:=a) (b:=q);cases Rw.e (a:=b) (b:=w);rfl⟩
instance [LE α] {a b q w:α} [Rw a q] [Rw b w]:Rw (a>=b) (q>=w):=⟨by cases Rw.e (a:=a) (b:=q);cases Rw.e (a:=b) (b:=w);rfl⟩
instance {a b q w:α} [Rw a q] [Rw b w]:Rw (a=b) (q=w):=⟨by cases Rw.e (a:=a) (b:=q);cases Rw.e (a:=b) (b:=w);rfl⟩
instance {p q w z:Prop} [Rw p w] [Rw q z]:Rw (p/\q) (w/\z):=⟨by cases Rw.e (a:=p) (b:=w);cases Rw.e (a:=q) (b:=z);rfl⟩
instance {p q:Prop} [Rw p q] [i:Decidable p] [j:Decidable q]:Rw (decide p) (decide q):=⟨by
 cases Rw.e (a:=p) (b:=q);congr⟩
instance [BEq α] {a b q w:α} [Rw a q] [Rw b w]:Rw (a==b) (q==w):=⟨by cases Rw.e (a:=a) (b:=q);cases Rw.e (a:=b) (b:=w);rfl⟩
instance [BEq α] {a b q w:α} [Rw a q] [Rw b w]:Rw (a !=b) (q !=w):=⟨by cases Rw.e (a:=a) (b:=q);cases Rw.e (a:=b) (b:=w);rfl⟩
instance {a q:Bool} [Rw a q]:Rw (!a) (!q):=⟨by cases Rw.e (a:=a) (b:=q);rfl⟩
instance {a b q w:Bool} [Rw a q] [Rw b w]:Rw (a&&b) (q&&w):=⟨by cases Rw.e (a:=a) (b:=q);cases Rw.e (a:=b) (b:=w);rfl⟩
instance iRun {P:Program} {H:Nat->Hint} {gM:eE} {f:Nat} {a q:List SV} {l w:List (Nat×Ob)} [Rw a q] [Rw l w]:Rw (run P H gM f a l) (run P H gM f q w):=⟨by cases Rw.e (a:=a) (b:=q);cases Rw.e (a:=l) (b:=w);rfl⟩
instance iHead {P:Program} {C:mW} {H:Nat->Hint} {gM:eE} {f key:Nat} {nm:List Nat} {a q:List (Nat×SV)} {l w:List (Nat×Ob)} [Rw a q] [Rw l w]:Rw (A5 P C H gM f key nm a l) (A5 P C H gM f key nm q w):=⟨by cases Rw.e (a:=a) (b:=q);cases Rw.e (a:=l) (b:=w);rfl⟩
end
section
variable {T:Type} {E:T->Out}
instance mSome {x:T} {y:Out} [Rw (E x) y]:Im E (some x) (some y):=⟨xV (Rw.e (a:=E x)).symm⟩
instance mDec {c c':Option Out} [Rw c c']:Im E (dec E c) c':=⟨by rw[<-Rw.e (a:=c) (b:=c')];exact Iz⟩
instance mCond {c c':Bool} {a b:Option Out} {q w:Option T} [Rw c' c] [Im E q a] [Im E w b]:Im E (bif c' then q else w) (bif c then a else b):=⟨vN (Rw.e (a:=c')).symm (Im.p (t:=q)) (Im.p (t:=w))⟩
instance mCheck {p q:Prop} [Decidable q] [Rw q p] [Decidable p] {a:Option Out} {w:Option T} [Im E w a]:Im E (check q w) (check p a):=⟨iS (λh=>by rw[<-Rw.e (a:=q) (b:=p)];exact h) (Im.p (t:=w))⟩
instance mGetK {α:Type} {enc:α->List AV} {l:List α} [En l enc] [fA enc] {L:List (List AV)} [Rw (l.map enc) L] {i q:Int} [Rw q i] {k:α->Option Out} {k':α->Option T} [h:∀x,Im E (k' (tl enc x)) (k x)]:Im E (bq l q k') (bq L i λc=>uJ enc c k):=⟨I_getKx (Rw.e (a:=l.map enc)).symm (Rw.e (a:=q)).symm λx=>(h x).p⟩
instance mGetN {α:Type} {enc:α->List AV} {l:List α} [En l enc] [fA enc] {L:List (List AV)} [Rw (l.map enc) L] {i q:Nat} [Rw q i] {k:α->Option Out} {k':α->Option T} [h:∀x,Im E (k' (tl enc x)) (k x)]:Im E (eC l q k') (eC L i λc=>uJ enc c k):=⟨I_getNx (Rw.e (a:=l.map enc)).symm (Rw.e (a:=q)).symm λx=>(h x).p⟩
instance mGetb {l:List UInt8} {i q:Int} [Rw q i] {k:UInt8->Option Out} {k':UInt8->Option T} [∀x,Im E (k' x) (k x)]:Im E (bq l q k') (bq l i k):=⟨by rw[Rw.e (a:=q) (b:=i)];exact I_getb λx=>Im.p (t:=k' x)⟩
instance mCall {U:Type} {enc:U->AV} [fA enc] {c c':Option Out} [Rw c' c] {k:U->Option Out} {k':U->Option T} [h:∀y,Im E (k' (tg enc y)) (k y)]:Im E (Option.bind (dec (EN enc) c') k') (yH c λr=>uJ enc r k):=⟨by rw[Rw.e (a:=c') (b:=c)];exact Ik λy=>(h y).p⟩
end
section
variable {α β:Type}
def pA (enc:α->List AV):α->AV:=λx=> .agg (enc x)
def pL (n:Nat) (enc:α->List AV):List α->AV:=λx=> .dD n (x.map enc)
def pP (f:α->AV) (g:β->AV):α×β->AV:=λx=> .gU [f x.1,g x.2]
def pT {q:Type} (f:α->AV) (g:β->AV) (h:q->AV):α×β×q->AV:=λx=> .gU [f x.1,g x.2.1,h x.2.2]
def pW (e n:Nat) (enc:α->List AV):List α->AV:=λx=> .gU [.gU [.self e, .dD n (x.map enc)]]
def pM (f:α->AV) (g:β->AV):List (α×β)->AV:=λx=> .mp (fI ⟨α,f⟩ ⟨β,g⟩ x).1 (fI ⟨α,f⟩ ⟨β,g⟩ x).2
def pF (n:Nat) (enc:α->List AV):List α->AV:=λx=> .fn n [.ref [.dD 2 (x.map enc)]]
def pU:Unit->AV:=λ_=> .gU []
variable {f:α->AV} {g:β->AV} {enc:α->List AV} {n e:Nat}
instance {k:IntKind}:fA (AV.int k):=⟨λa b h=>by injection h⟩
instance:fA AV.bool:=⟨λa b h=>by injection h⟩
instance:fA AV.str:=⟨λa b h=>by injection h⟩
instance:fA AV.self:=⟨λa b h=>by injection h⟩
instance:fA pU:=⟨λ_ _ _=>rfl⟩
instance [fA enc]:fA (pA enc):=⟨λa b h=>by injection h with h;exact fA.inj _ _ h⟩
instance [fA enc]:fA (pL n enc):=⟨λa b h=>by injection h with _ h;exact map_inj fA.inj _ _ h⟩
instance [fA f] [fA g]:fA (pP f g):=⟨λa b h=>by
 simp only[pP,AV.gU.injEq,cR,eH] at h
 exact pX (fA.inj _ _ h.1) (fA.inj _ _ h.2)⟩
instance [fA enc]:fA (pW e n enc):=⟨λa b h=>by
 simp only[pW,AV.gU.injEq,cR,AV.dD.injEq,ew,eH] at h
 exact map_inj fA.inj _ _ h⟩
instance [fA enc]:fA (pF n enc):=⟨λa b h=>by
 simp only[pF,AV.fn.injEq,AV.ref.injEq,cR,AV.dD.injEq,ew,eH] at h
 exact map_inj fA.inj _ _ h⟩
instance [i:fA f] [j:fA g]:fA (pM f g):=⟨λa b h=>by injection h with q w;exact @vX ⟨α,f⟩ ⟨β,g⟩ i j _ _ q w⟩
instance {l:List α} {L:List (List AV)} [Rw (l.map enc) L]:Rw (pL n enc l) (.dD n L):=⟨by cases Rw.e (a:=l.map enc) (b:=L);rfl⟩
instance {x:α} {y:β} {a b:AV} [Rw (f x) a] [Rw (g y) b]:Rw (pP f g (x,y)) (.gU [a,b]):=⟨by cases Rw.e (a:=f x) (b:=a);cases Rw.e (a:=g y) (b:=b);rfl⟩
instance {x:List α}:En (tg (pL n enc) x) enc:=⟨⟩
instance {x:List α×β}:En (tg (pP (pL n enc) g) x).1 enc:=⟨⟩
instance {q:Type} {h:q->AV} [fA f] [fA g] [fA h]:fA (pT f g h):=⟨λa b e=>by
 simp only[pT,AV.gU.injEq,cR,eH] at e
 exact pX (fA.inj _ _ e.1) (pX (fA.inj _ _ e.2.1) (fA.inj _ _ e.2.2))⟩
instance {q:Type} {h:q->AV} {x:α} {y:β} {z:q} {a b c:AV} [Rw (f x) a] [Rw (g y) b] [Rw (h z) c]:Rw (pT f g h (x,y,z)) (.gU [a,b,c]):=⟨by cases Rw.e (a:=f x) (b:=a);cases Rw.e (a:=g y) (b:=b);cases Rw.e (a:=h z) (b:=c);rfl⟩
instance {q:Type} {h:q->AV} {x:β×List α×q}:En (tg (pT g (pL n enc) h) x).2.1 enc:=⟨⟩
instance {x:β×List α}:En (tg (pP g (pL n enc)) x).2 enc:=⟨⟩
end
structure De0 where
 e:List (Nat×Ob)
 r:List (Nat×Ob)->Option Out->Option Out
 ok:∀k,r e k=k
structure De (T:Type) where
 e:T->List (Nat×Ob)
 r:List (Nat×Ob)->(T->Option Out)->Option Out
 ok:∀x k,r (e x) k=k x
structure It (α:Type) where
 e:α->Ob
 r:Ob->(α->Option Out)->Option Out
 ok:∀x k,r (e x) k=k x
noncomputable section
def unc (q:Nat) (o:Ob) (l:List (Nat×Ob)) (k:Ob->List (Nat×Ob)->Option Out):vF q ((q,o)::l) k=k o l:=by unfold vF;simp
def smk (o:Ob) (k:Option Out):FR o o k=k:=by unfold FR;simp
def dZ:De0:=⟨[],ZY,λk=>by unfold ZY;rfl⟩
def iR {α:Type} (e q:Nat) (enc:α->List AV) [fA enc]:It (List α):=⟨λxs=> .row e q (xs.map enc),λo k=>RT e q o λc=>uJ (List.map enc) c k,λx k=>by unfold RT;simp[lX]⟩
def iM (w q:Nat) (K V:xU) [fA K.enc] [fA V.enc]:It (List (K.T×V.T)):=⟨λl=> .mp w q (fI K V l).1 (fI K V l).2,λo k=>RS w q o λc=>uJ (fI K V) c k,λx k=>by unfold RS;simp[lX]⟩
section
variable {α T:Type}
def dT (q:Nat) (w:Ob) (d:De T):De T:=⟨λx=>(q,w)::d.e x,λl k=>vF q l λo l=>FR o w (d.r l k),λx k=>by rw[unc,smk,d.ok]⟩
def dI (q:Nat) (i:It α) (d:De T):De (α×T):=⟨λx=>(q,i.e x.1)::d.e x.2,λl k=>vF q l λo l=>i.r o λx=>d.r l λy=>k (x,y),λx k=>by rw[unc,i.ok,d.ok]⟩
def dJ (q:Nat) (i:It α) (z:De0):De α:=⟨λx=>(q,i.e x)::z.e,λl k=>vF q l λo l=>i.r o λx=>z.r l (k x),λx k=>by rw[unc,i.ok,z.ok]⟩
variable {U:Type}
def eD (Q:U->AV) (d:De T):U×T->Out:=λx=>(Q x.1,d.e x.2)
def eZ (Q:U->AV) (z:De0):U->Out:=λx=>(Q x,z.e)
def eR {V:Type} (Q:U->AV) (q e w:Nat) (enc:V->List AV):U×List V->Out:=λx=>(Q x.1,[(q, .row e w (x.2.map enc))])
instance {V:Type} {Q:U->AV} {nm e sz:Nat} {enc:V->List AV} {x:U} {l:List V} {a:AV} {L:List (List AV)} [Rw (Q x) a] [Rw (l.map enc) L]:Rw (eR Q nm e sz enc (x,l)) (a,[(nm, .row e sz L)]):=⟨by cases Rw.e (a:=Q x) (b:=a);cases Rw.e (a:=l.map enc) (b:=L);rfl⟩
class RwI {V:Type} (i:It V) (x:V) (o:outParam Ob):Prop where
 e:i.e x=o
class RwD {V:Type} (d:De V) (x:V) (l:outParam (List (Nat×Ob))):Prop where
 e:d.e x=l
instance (priority:=low) {i:It α} {x:α}:RwI i x (i.e x):=⟨rfl⟩
instance {V:Type} {e sz:Nat} {enc:V->List AV} [fA enc] {l:List V} {L:List (List AV)} [j:Rw (l.map enc) L]:RwI (iR e sz enc) l (.row e sz L):=⟨by rw[<-j.e];rfl⟩
instance {nm:Nat} {q:Ob} {d:De T} {w:T} {l:List (Nat×Ob)} [j:RwD d w l]:RwD (dT nm q d) w ((nm,q)::l):=⟨by rw[<-j.e];rfl⟩
instance {nm:Nat} {i:It α} {d:De T} {x:α} {w:T} {o:Ob} {l:List (Nat×Ob)} [k:RwI i x o] [j:RwD d w l]:RwD (dI nm i d) (x,w) ((nm,o)::l):=⟨by rw[<-j.e,<-k.e];rfl⟩
instance {nm:Nat} {i:It α} {z:De0} {x:α} {o:Ob} [k:RwI i x o]:RwD (dJ nm i z) x ((nm,o)::z.e):=⟨by rw[<-k.e];rfl⟩
instance {Q:U->AV} {d:De T} {x:U} {w:T} {a:AV} {l:List (Nat×Ob)} [i:Rw (Q x) a] [j:RwD d w l]:Rw (eD Q d (x,w)) (a,l):=⟨by rw[<-i.e,<-j.e];rfl⟩
def De.inj (d:De T) {a b:T} (h:d.e a=d.e b):a=b:=by
 have q:=d.ok a λx=>open Classical in if x=a then some (.qh,[]) else none
 rw[h,d.ok] at q;simp at q;exact q.symm
instance {Q:U->AV} [fA Q] {d:De T}:fA (eD Q d):=⟨λa b h=>pX (fA.inj _ _ (aP Prod.fst h)) (d.inj (aP Prod.snd h))⟩
instance {Q:U->AV} [fA Q] {z:De0}:fA (eZ Q z):=⟨λa b h=>fA.inj _ _ (aP Prod.fst h)⟩
instance {V:Type} {Q:U->AV} [fA Q] {nm e sz:Nat} {enc:V->List AV} [fA enc]:fA (eR Q nm e sz enc):=⟨λa b h=>by
 simp only[eR,cD,cR,Ob.row.injEq,ew,eH] at h
 exact pX (fA.inj _ _ h.1) (map_inj fA.inj _ _ h.2)⟩
end
end
section
variable {T U W:Type} {E:T->Out} {Q:U->AV} [fA Q] {c c':Option Out}
def I_D {d:De W} {k:U->W->Option Out} {k':U×W->Option T} (h:∀y w,mD E (k y w) (k' (y,w))):mD E (BN c λr l=>d.r l λw=>uJ Q r λy=>k y w) (Option.bind (dec (eD Q d) c) k'):=
 I_callM (iZ _ _) λy=>by simp only[eD,d.ok,lX];exact h _ _
instance mCall3 {q z:Type} {d:De (q×z)} [Rw c' c] {k:U->q->z->Option Out} {k':U->q->z->Option T} [h:∀y B D,Im E (k' (tg Q y) B D) (k y B D)]:Im E (eV (dec (eD Q d) c') k') (BN c λr l=>d.r l λw=>uJ Q r λy=>k y w.1 w.2):=⟨by
 rw[Rw.e (a:=c') (b:=c)];exact I_D λy w=>(h y w.1 w.2).p⟩
instance mCall4 {q z B:Type} {d:De (q×z×B)} [Rw c' c] {k:U->q->z->B->Option Out} {k':U->q->z->B->Option T} [h:∀y D F G,Im E (k' (tg Q y) D F G) (k y D F G)]:Im E (mA (dec (eD Q d) c') k') (BN c λr l=>d.r l λw=>uJ Q r λy=>k y w.1 w.2.1 w.2.2):=⟨by
 rw[Rw.e (a:=c') (b:=c)];exact I_D λy w=>(h y w.1 w.2.1 w.2.2).p⟩
instance mCall5 {q z B D:Type} {d:De (q×z×B×D)} [Rw c' c] {k:U->q->z->B->D->Option Out} {k':U->q->z->B->D->Option T} [h:∀y F G H I,Im E (k' (tg Q y) F G H I) (k y F G H I)]:Im E (JU (dec (eD Q d) c') k') (BN c λr l=>d.r l λw=>uJ Q r λy=>k y w.1 w.2.1 w.2.2.1 w.2.2.2):=⟨by
 rw[Rw.e (a:=c') (b:=c)];exact I_D λy w=>(h y w.1 w.2.1 w.2.2.1 w.2.2.2).p⟩
instance mCall6 {q z B D F:Type} {d:De (q×z×B×D×F)} [Rw c' c] {k:U->q->z->B->D->F->Option Out} {k':U->q->z->B->D->F->Option T} [h:∀y G H I K L,Im E (k' (tg Q y) G H I K L) (k y G H I K L)]:Im E (RV (dec (eD Q d) c') k') (BN c λr l=>d.r l λw=>uJ Q r λy=>k y w.1 w.2.1 w.2.2.1 w.2.2.2.1 w.2.2.2.2):=⟨by
 rw[Rw.e (a:=c') (b:=c)];exact I_D λy w=>(h y w.1 w.2.1 w.2.2.1 w.2.2.2.1 w.2.2.2.2).p⟩
instance mCallR {V:Type} {nm e sz:Nat} {q:V->List AV} [fA q] [Rw c' c] {k:U->List V->Option Out} {k':U->List V->Option T} [h:∀y w,Im E (k' (tg Q y) (tw q w)) (k y w)]:Im E (Di (dec (eR Q nm e sz q) c') k') (HA c nm e sz λr c2=>uJ Q r λy=>uJ (List.map q) c2 λxs=>k y xs):=⟨by
 rw[Rw.e (a:=c') (b:=c)];exact I_callR (iZ _ _) λy w=>(h y w).p⟩
instance:EnR Int (AV.int .i64):=⟨⟩
instance:EnR Bool AV.bool:=⟨⟩
instance:EnR (List UInt8) AV.str:=⟨⟩
end
section
variable {T:Type} {E:T->Out} {κ ν:Type} {f:κ->AV} {g:ν->AV} {l:List (κ×ν)} {key:κ} {a:AV}
instance mLook [EnR κ f] [EnR ν g] [ID ⟨κ,f⟩] [i:fA g] [Rw (f key) a] {k:ν->Option Out} {k':ν->Option T} {z:Option Out} {q:Option T} [h:∀y,Im E (k' (tg g y)) (k y)] [Im E q z]:Im E (A7 l key k' q) (NB (Wg a (fI ⟨κ,f⟩ ⟨ν,g⟩ l).1 (fI ⟨κ,f⟩ ⟨ν,g⟩ l).2) (λv=>uJ g v k) z):=⟨by
 rw[<-Rw.e (a:=f key) (b:=a)];exact @I_look T E ⟨κ,f⟩ ⟨ν,g⟩ _ i l key k k' z q (λy=>(h y).p) Im.p⟩
instance mPut [EnR κ f] [EnR ν g] [ID ⟨κ,f⟩] [i:fA g] [Rw (f key) a] [j:fA f] {v:ν} {b:AV} [Rw (g v) b] {k:List (κ×ν)->Option Out} {k':List (κ×ν)->Option T} [h:∀m,Im E (k' m) (k m)]:Im E (Bm (yt l key v) k') (aae (Wj a b (fI ⟨κ,f⟩ ⟨ν,g⟩ l).1 (fI ⟨κ,f⟩ ⟨ν,g⟩ l).2) λp=>uJ (fI ⟨κ,f⟩ ⟨ν,g⟩) p k):=⟨by
 rw[<-Rw.e (a:=f key) (b:=a)];exact @I_put T E ⟨κ,f⟩ ⟨ν,g⟩ _ j i l key b v k k' (Rw.e (a:=g v)).symm λm=>(h m).p⟩
instance [EnR κ f] [EnR ν g]:Rw l.length (fI ⟨κ,f⟩ ⟨ν,g⟩ l).1.length:=⟨by simp[fI]⟩
end
def UU {α:Type} {enc:α->List AV} [fA enc] {t:TypeId} {pre:List SV} {q:Nat} {x:List α} {k:List α->Option Out}:(JR t pre q (.box t (pre++[.pv (.dD q (List.map enc x))])) λc=>uJ (List.map enc) c k)=k x:=by
 have key:∀w:List (List AV),Ob.box t (pre++[.pv (.dD q (List.map enc x))])= .box t (pre++[.pv (.dD q w)])->List.map enc x=w:=by intro w e;simp only[Ob.box.injEq,ew] at e;have e:=List.append_cancel_left e;simpa only[cR,SV.pv.injEq,AV.dD.injEq,ew,eH] using e
 have h:∃xs,Ob.box t (pre++[.pv (.dD q (List.map enc x))])= .box t (pre++[.pv (.dD q xs)]):=⟨_,rfl⟩
 unfold JR;rw[kC h,<-key _ h.choose_spec];show uJ (List.map enc) (List.map enc x) k=k x;rw[lX]
noncomputable def iL {α:Type} (t:TypeId) (pre:List SV) (q:Nat) (enc:α->List AV) [fA enc]:It (List α):=⟨λxs=> .box t (pre++[.pv (.dD q (xs.map enc))]),λo k=>JR t pre q o λc=>uJ (List.map enc) c k,λ_ _=>UU⟩
class Gn {α:Type} (G:α->Out):Prop
class EnX {α:Type} (l:List α) (f g:outParam (α->List AV)):Prop where
 e:f=g
section
variable {T:Type} {E:T->Out} {c c':Option Out}
instance mGetX {α:Type} {f g:α->List AV} {l:List α} [x:EnX l f g] [fA g] {i q:Int} [Rw q i] {k:α->Option Out} {k':α->Option T} [h:∀x,Im E (k' (tl g x)) (k x)]:Im E (bq l q k') (bq (l.map f) i λr=>uJ g r k):=⟨by
 rw[Rw.e (a:=q) (b:=i)];exact IgX x.e λx=>(h x).p⟩
variable [Rw c' c]
instance mGen {U:Type} {G:U->Out} [Gn G] [fA G] {k:U->Option Out} {k':U->Option T} [h:∀y,Im E (k' y) (k y)]:Im E (Option.bind (dec G c') k') (MC G c k):=⟨by
 rw[Rw.e (a:=c') (b:=c)];exact yC (iZ _ _) λy=>(h y).p⟩
instance mGen3 {U V W:Type} {G:U×V×W->Out} [Gn G] [fA G] {k:U->V->W->Option Out} {k':U->V->W->Option T} [h:∀y v w,Im E (k' y v w) (k y v w)]:Im E (eV (dec G c') k') (genK3 G c k):=⟨by
 rw[Rw.e (a:=c') (b:=c)];exact JF (iZ _ _) λy v w=>(h y v w).p⟩
instance mGen4 {U V W X:Type} {G:U×V×W×X->Out} [Gn G] [fA G] {k:U->V->W->X->Option Out} {k':U->V->W->X->Option T} [h:∀y v w x,Im E (k' y v w x) (k y v w x)]:Im E (mA (dec G c') k') (genK4 G c k):=⟨by
 rw[Rw.e (a:=c') (b:=c)];exact UK (iZ _ _) λy v w x=>(h y v w x).p⟩
instance mGen5 {U V W X Y:Type} {G:U×V×W×X×Y->Out} [Gn G] [fA G] {k:U->V->W->X->Y->Option Out} {k':U->V->W->X->Y->Option T} [h:∀y v w x z,Im E (k' y v w x z) (k y v w x z)]:Im E (JU (dec G c') k') (genK5 G c k):=⟨by
 rw[Rw.e (a:=c') (b:=c)];exact I_gen5 (iZ _ _) λy v w x z=>(h y v w x z).p⟩
end
