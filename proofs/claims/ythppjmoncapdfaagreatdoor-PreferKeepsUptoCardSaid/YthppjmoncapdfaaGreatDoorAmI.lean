/- THE ABSTRACT MACHINE. -/
import Derived.Test.YthppjmoncapdfaaGreatDoorAmT
set_option linter.all false
open Go.IntKind (wrap)
open Int (toNat)
namespace Go.AM
class gJ {T α:Type} (enc:T->α):Prop where
 inj:∀a b,enc a=enc b->a=b
def cg (k:IntKind) (a:Int):List AV:=[.int k a]
def jv (s:List UInt8):List AV:=[.str s]
def qF (b:Bool):List AV:=[.bool b]
def gV {T:Type} (q:Nat) (enc:T->List AV) (l:List T):List AV:=[.dK q (l.map enc)]
def map_inj {T α:Type} {enc:T->α} (h:∀a b,enc a=enc b->a=b):∀(l m:List T),l.map enc=m.map enc->l=m:=by intro l;induction l with
 |nil=>intro m q;cases m with
  |nil=>rfl
  |cons x m=>simp at q
 |cons x l w=>intro m q;cases m with
  |nil=>simp at q
  |cons y m=>simp only[aS,dN] at q;rw[h _ _ q.1,w _ q.2]
instance {k:IntKind}:gJ (cg k):=⟨λa b h=>by simpa[cg] using h⟩
instance:gJ jv:=⟨λa b h=>by simpa[jv] using h⟩
instance:gJ qF:=⟨λa b h=>by simpa[qF] using h⟩
instance {T α:Type} {enc:T->α} [gJ enc]:gJ (List.map enc):=⟨map_inj gJ.inj⟩
instance {T:Type} {sz:Nat} {enc:T->List AV} [gJ enc]:gJ (gV sz enc):=⟨λa b h=>by
 simp only[gV,dN,AV.dK.injEq,fG,gD] at h
 exact map_inj gJ.inj _ _ h⟩
section
variable {R:Type}
def je {α T:Type} {enc:T->α} [gJ enc] (d:T) (k:T->Option R):rU enc (enc d) k=k d:=asE_pos gJ.inj d k
def PW (r:AV) (k:AV->Option R):wN (some (r,[])) k=k r:=XE rfl k
def FI (q e w:Nat) (r:AV) (xs:List (List AV)) (k:AV->List (List AV)->Option R):Dl (some (r,[(q, .row e w xs)])) q e w k=k r xs:=XF rfl k
def sF {α:Type} [Inhabited α] {l:List α} {i:Nat} (h:i<l.length) (k:α->Option R):aW l (i:Int) k=k (l.getD i default):=
 ey (by rw[aM h,aZ,aM h];rfl) k
def wR {α:Type} [Inhabited α] {l:List α} {i:Int} (q:0<=i) (h:i<l.length) (k:α->Option R):aW l i k=k (l.getD i.toNat default):=by obtain⟨n,rfl⟩:=eN q;exact sF af k
def VP {α:Type} [Inhabited α] {l:List α} {i:Nat} (h:i<l.length) (k:α->Option R):ek l i k=k (l.getD i default):=
 gF (by rw[aM h,aZ,aM h];rfl) k
end
def YU (n:Int):wrap .i64 n=if 9223372036854775808<=n % 18446744073709551616 then n % 18446744073709551616-18446744073709551616 else n % 18446744073709551616:=by show(if(true&&decide (n % 18446744073709551616>=9223372036854775808))=true then n % 18446744073709551616-18446744073709551616 else n % 18446744073709551616)=_;simp only[gl,jZ,ge_iff_le]
def jN {n:Int} (q: -9223372036854775808<=n) (w:n<=9223372036854775807):wrap .i64 n=n:=by rw[YU];split<;>omega
def Vl (n:Int):wrap .u64 n=n % 18446744073709551616:=by show(if(false&&decide (n % 18446744073709551616>=9223372036854775808))=true then n % 18446744073709551616-18446744073709551616 else n % 18446744073709551616)=_;simp
theorem sD {n:Int} (q:0<=n) (w:n<=18446744073709551615):wrap .u64 n=n:=by rw[Vl];omega
def bp {i:Nat} (h:i<4611686018427387904):wrap .i64 ((i:Int)+1)=((i+1:Nat):Int):=by rw[jN af af];omega
def cond_pos {α:Type} {b:Bool} (h:b=true) (x y:α):cond b x y=x:=by subst h;rfl
def cond_neg {α:Type} {b:Bool} (h:b=false) (x y:α):cond b x y=y:=by subst h;rfl
end Go.AM
namespace Go.AM
def K8 (a:List UInt8):Op.bytesLess a a=false:=by induction a with
 |nil=>rfl
 |cons x a q=>simp[Op.bytesLess,q]
def zP:∀(a b:List UInt8),Op.bytesLess a b=false->a≠b->Op.bytesLess b a=true:=by intro a;induction a with
 |nil=>intro b h q;cases b with
  |nil=>exact absurd rfl q
  |cons y b=>simp[Op.bytesLess] at h
 |cons x a B=>intro b h q;cases b with
  |nil=>rfl
  |cons y b=>
   simp only[Op.bytesLess,mF,bP,Bool.and_eq_false_iff] at h;simp only[Op.bytesLess,fq,jZ,aJ,gj];by_cases e:x=y
   .subst e;refine .inr ⟨rfl,B b (h.2.resolve_left ah) λe=>q (by rw[e])⟩
   .refine .inl ?_;have z:=h.1;simp only[CP] at z⊢
    have:x.toNat≠y.toNat:=λw=>e (UInt8.toNat.inj w)
    omega
def Dh:∀(a b c:List UInt8),Op.bytesLess a b=true->Op.bytesLess b c=true->Op.bytesLess a c=true:=by intro a;induction a with
 |nil=>intro b c w q;cases c with
  |nil=>simp[Op.bytesLess] at q
  |cons z c=>rfl
 |cons x a B=>intro b c w q;cases b with
  |nil=>simp[Op.bytesLess] at w
  |cons y b=>cases c with
   |nil=>simp[Op.bytesLess] at q
   |cons z c=>
    simp only[Op.bytesLess,fq,jZ,aJ,gj,CP] at w q⊢;rcases w with w|⟨rfl,w⟩
    .rcases q with q|⟨rfl,q⟩
     .exact .inl af
     .exact .inl w
    .rcases q with q|⟨rfl,q⟩
     .exact .inl q
     .exact .inr ⟨rfl,B b c w q⟩
def sZ {a b:List UInt8} (h:Op.bytesLess a b=true):Op.bytesLess b a=false:=by cases e:Op.bytesLess b a with
 |false=>rfl
 |true=>have:=Dh _ _ _ h e;rw[K8] at this;cases this
section
variable {α:Type} (lt:α->α->Bool)
def p7 (x:α):List α->List α
 |[]=>[x]
 |y::l=>if lt x y=true then x::y::l else y::p7 x l
def lZ (l:List α):Prop:=l.Pairwise λa b=>lt b a=false
theorem II {x:α} {p q:List α} (w:∀y∈p,lt x y=false) (B:∀y∈q,lt x y=true):p7 lt x (p++q)=p++x::q:=by induction p with
 |nil=>cases q with
  |nil=>rfl
  |cons y q=>simp only[dh,p7];rw[az (B y (qS ..))]
 |cons y p F=>simp only[eU,p7];rw[au (by simp[w y (qS ..)]),F λz D=>w z (eo _ D)]
theorem QS {x y:α}:∀{l:List α},y∈p7 lt x l↔y=x\/y∈l:=by intro l;induction l with
 |nil=>simp[p7]
 |cons z l q=>
  simp only[p7];split
  .simp
  .simp only[aG,q];constructor
   .rintro (h|h|h)<;>simp[h]
   .rintro (h|h|h)<;>simp[h]
theorem QO {x:α}:∀{l:List α},(p7 lt x l).length=l.length+1:=by intro l;induction l with
 |nil=>rfl
 |cons y l q=>simp only[p7];split<;>simp[q]
theorem zZ (q:∀a b,lt a b=true->lt b a=false) (up:∀x y z,lt x y=true->lt z y=false->lt x z=true) {x:α}:∀{l:List α},lZ lt l->lZ lt (p7 lt x l):=by intro l;induction l with
 |nil=>intro _;simp[p7,lZ]
 |cons y l D=>
  intro B;simp only[lZ,dA] at B;simp only[p7];split
  .rename_i h;simp only[lZ,dA,aG];refine⟨λz w=> ?_,B⟩;rcases w with rfl|w
   .exact q _ _ h
   .exact q _ _ (up _ _ _ h (B.1 z w))
  .rename_i h;simp only[lZ,dA];refine⟨λz w=> ?_,D B.2⟩;rcases(QS lt).1 w with rfl|w
   .simpa using h
   .exact B.1 z w
def lD (l:List α):List α:=l.foldl (λout x=>p7 lt x out) []
end
end Go.AM
namespace Go.AM
abbrev Out:Type:=AV×List (Nat×Ob)
noncomputable def dec {T:Type} (E:T->Out) (c:Option Out):Option T:=
 match c with
 |some r=>open Classical in if h:∃x,E x=r then some h.choose else none
 |none=>none
def mC {T:Type} (E:T->Out) (c:Option Out) (t:Option T):Prop:=∀x,t=some x->c=some (E x)
def iU {T:Type} (E:T->Out) (c:Option Out):mC E c (dec E c):=by intro x q;cases c with
 |none=>simp[dec] at q
 |some r=>
  simp only[dec] at q;split at q
  .rename_i h;have:=h.choose_spec;simp only[aN] at q;rw[<-q,this]
  .simp at q
def iV {T:Type} {E:T->Out} [gJ E] {c:Option Out} {x:T} (h:c=some (E x)):dec E c=some x:=by
 subst h;have q:∃y,E y=E x:=⟨x,rfl⟩
 simp only[dec,jY q];rw[gJ.inj _ _ q.choose_spec]
section
variable {T:Type} {E:T->Out}
def L9 {c:Out} {x:T} (h:c=E x):mC E (some c) (some x):=by intro y q;simp only[aN] at q;subst q;rw[h]
def zx {c c':Bool} {a b:Option Out} {q w:Option T} (D:c=c') (z:mC E a q) (B:mC E b w):mC E (bif c then a else b) (bif c' then q else w):=by
 subst D;cases c
 .exact B
 .exact z
def P4 {R:Type} {p:Prop} [Decidable p] {a:Option R} {x:R} (h:check p a=some x):p/\a=some x:=by
 unfold check at h;split at h
 .exact⟨by assumption,h⟩
 .simp at h
def Ti {R:Type} {p:Prop} [Decidable p] {a:Option R} (h:p):check p a=a:=by unfold check;rw[az h]
def fV {p q:Prop} [Decidable p] [Decidable q] {a:Option Out} {w:Option T} (z:q->p) (h:mC E a w):mC E (check p a) (check q w):=by intro x B;have:=P4 B;rw[Ti (z this.1)];exact h _ this.2
def Zc {α β:Type} {enc:α->β} [gJ enc] {L:List β} {l:List α} {i:Int} {k:α->Option Out} {k':α->Option T} (z:L=l.map enc) (h:∀x,mC E (k x) (k' x)):
  mC E (aW L i λc=>rU enc c k) (aW l i k'):=by
 subst z;intro x q;unfold aW at q⊢;split at q
 .rename_i w;rw[dF];cases e:l[i.toNat]? with
  |none=>rw[e] at q;simp at q
  |some y=>rw[e] at q;simp only[cR,az w];rw[je];exact h _ _ q
 .simp at q
def SG {α β:Type} {enc:α->β} [gJ enc] {L:List β} {l:List α} {i:Nat} {k:α->Option Out} {k':α->Option T} (w:L=l.map enc) (h:∀x,mC E (k x) (k' x)):
  mC E (ek L i λc=>rU enc c k) (ek l i k'):=by
 subst w;intro x q;unfold ek at q⊢;rw[dF];cases e:l[i]? with
 |none=>rw[e] at q;simp at q
 |some y=>rw[e] at q;simp only[cR];rw[je];exact h _ _ q
def Vp {α β:Type} {enc:α->β} [gJ enc] {L:List β} {l:List α} {i q:Int} {k:α->Option Out} {k':α->Option T} (z:L=l.map enc) (w:i=q) (h:∀x,mC E (k x) (k' x)):
  mC E (aW L i λc=>rU enc c k) (aW l q k'):=by
 subst w;exact Zc z h
def adU {α β:Type} {enc:α->β} [gJ enc] {L:List β} {l:List α} {i q:Nat} {k:α->Option Out} {k':α->Option T} (z:L=l.map enc) (w:i=q) (h:∀x,mC E (k x) (k' x)):
  mC E (ek L i λc=>rU enc c k) (ek l q k'):=by
 subst w;exact SG z h
def I_getb {α:Type} {l:List α} {i:Int} {k:α->Option Out} {k':α->Option T} (h:∀x,mC E (k x) (k' x)):mC E (aW l i k) (aW l i k'):=by
 intro x q;unfold aW at q⊢;split at q
 .rename_i w;rw[az w];cases e:l[i.toNat]? with
  |none=>rw[e] at q;simp at q
  |some y=>rw[e] at q;exact h _ _ q
 .simp at q
def bind_some {α β:Type} {f:Option α} {k:α->Option β} {x:β} (h:Option.bind f k=some x):∃y,f=some y/\k y=some x:=by cases f with
 |none=>simp at h
 |some y=>exact⟨y,rfl,h⟩
def I_call {U:Type} {enc:U->AV} [gJ enc] {q:U->Out} {c:Option Out} {f:Option U} {k:U->Option Out} {k':U->Option T} (D:mC q c f) (h:∀y,mC E (k y) (k' y)) (B:∀y,q y=(enc y,[]):=by intro _;rfl):
  mC E (wN c λr=>rU enc r k) (Option.bind f k'):=by
 intro x F;obtain⟨y,w,z⟩:=bind_some F;rw[D _ w,B,PW,je];exact h _ _ z
def Bq {U V R:Type} (f:Option (U×V)) (k:U->V->Option R):Option R:=f.bind λp=>k p.1 p.2
def Br {U V W R:Type} (f:Option (U×V×W)) (k:U->V->W->Option R):Option R:=f.bind λp=>k p.1 p.2.1 p.2.2
def YB {U R:Type} (o:Option U) (k:U->Option R):Option R:=match o with
 |some x=>k x
 |none=>none
def tM {q w z B R:Type} (f:Option (q×w×z×B)) (k:q->w->z->B->Option R):Option R:=f.bind λp=>k p.1 p.2.1 p.2.2.1 p.2.2.2
def FG {q w z B D R:Type} (f:Option (q×w×z×B×D)) (k:q->w->z->B->D->Option R):Option R:=f.bind λp=>k p.1 p.2.1 p.2.2.1 p.2.2.2.1 p.2.2.2.2
def PL {q w z B D F R:Type} (f:Option (q×w×z×B×D×F)) (k:q->w->z->B->D->F->Option R):Option R:=f.bind λp=>k p.1 p.2.1 p.2.2.1 p.2.2.2.1 p.2.2.2.2.1 p.2.2.2.2.2
def r6 {U V R:Type} (a:U) (b:V) (k:U->V->Option R):Bq (some (a,b)) k=k a b:=rfl
def jO {U V W R:Type} (a:U) (b:V) (c:W) (k:U->V->W->Option R):Br (some (a,b,c)) k=k a b c:=rfl
def adS {U V:Type} {enc:U->AV} [gJ enc] {q:V->List AV} [gJ q] {z e B:Nat} {w:U×List V->Out} {c:Option Out} {f:Option (U×List V)} {k:U->List V->Option Out} {k':U->List V->Option T}
  (H:mC w c f) (h:∀y xs,mC E (k y xs) (k' y xs)) (G:∀y,w y=(enc y.1,[(z, .row e B (y.2.map q))]):=by intro _;rfl):
  mC E (Dl c z e B λr c2=>rU enc r λy=>rU (List.map q) c2 λxs=>k y xs) (Bq f k'):=by
 intro x I;obtain⟨y,D,F⟩:=bind_some I;rw[H _ D,G,FI,je,je];exact h _ _ _ F
end
section
variable {α R:Type}
def c9 {l:List α} {i:Nat} {x:α} {xs:List α} (h:l.drop i=x::xs):i<l.length:=by have:=aK List.length h;simp only[xK,bg] at this;omega
def iq {l:List α} {i:Nat} (h:l.drop i=[]):l.length<=i:=by have:=aK List.length h;simp only[xK,er] at this;omega
def bA {l:List α} {i:Nat} {x:α} {xs:List α} (h:l.drop i=x::xs):l[i]? =some x:=by have:=aK (λm=>m[0]?) h;simpa using this
def aH {l:List α} {i:Nat} {x:α} {xs:List α} (h:l.drop i=x::xs):l.drop (i+1)=xs:=by have:=aK (List.drop 1) h;simpa[qT,sV] using this
def bf {l:List α} {i:Nat} {x:α} {xs:List α} (h:l.drop i=x::xs):decide ((i:Int)<(l.length:Int))=true:=by have:=c9 h;simp;omega
def bq {l:List α} {i:Nat} (h:l.drop i=[]):decide ((i:Int)<(l.length:Int))=false:=by have:=iq h;simp;omega
def aQ {l:List α} {i:Nat} {x:α} {xs:List α} (h:l.drop i=x::xs) (k:α->Option R):aW l (i:Int) k=k x:=ey (bA h) k
def sY {l:List α} {i:Nat} {x:α} {xs:List α} (h:l.drop i=x::xs) (k:α->Option R):ek l (toNat (i:Int)) k=k x:=by rw[aR];exact gF (bA h) k
def s5 {l:List α} {i:Nat} {x:α} {xs:List α} (h:l.drop i=x::xs) (a:Option R):check (0<=(i:Int)/\toNat (i:Int)<l.length) a=a:=
 bh ⟨af,by rw[aR];exact c9 h⟩ a
def aX {l:List α} {i:Nat} {x:α} {xs:List α} (h:l.drop i=x::xs) (q:l.length<=1073741824):wrap .i64 ((i:Int)+1)=((i+1:Nat):Int):=
 bp (by have:=c9 h;omega)
def bU {n m c:Nat} (a:Option R) (h:n<=1073741824) (z:m<=1073741824) (q:c<=1024):check ((n+m) *c<=140737488355328/\n+m<=4611686018427387904) a=a:=by refine bh ⟨?_,af⟩ a;have w:(n+m) *c<=(n+m) *1024:=FB _ q;omega
def Dr {l:List α} {i:Nat} (h:i<=l.length) (a:Option R):check (0<=(i:Int)/\(i:Int)<=((l.length:Nat):Int)) a=a:=bh ⟨af,af⟩ a
def xB {n:Nat} (h:n<=1073741824):wrap .i64 (((n+1:Nat):Int)-1)=(n:Int):=by rw[jN af af];omega
def gK (p:α->Bool):List α->Nat->Int
 |[],_=> -1
 |x::xs,i=>if p x then(i:Int) else gK p xs (i+1)
def ak {α β:Type} (a:α) (k:α->Option β):Option.bind (some a) k=k a:=rfl
def bS {l:List α} {i:Nat} (h:i<l.length) (k:α->Option R):aW l (i:Int) k=k l[i]:=ey (aM h) k
def DH {l:List α} {i:Nat} (h:i<l.length) (k:α->Option R):ek l i k=k l[i]:=gF (aM h) k
def Tj {l:List α} {i:Nat} (h:i<l.length) (a:Option R):check (0<=(i:Int)/\toNat (i:Int)<l.length) a=a:=
 bh ⟨af,by rw[aR];exact h⟩ a
end
def EN {U:Type} (enc:U->AV):U->Out:=λx=>(enc x,[])
instance {U:Type} {enc:U->AV} [gJ enc]:gJ (EN enc):=⟨λa b h=>gJ.inj _ _ (aK Prod.fst h)⟩
section
variable {T:Type} {E:T->Out}
def Is {x:T}:mC E (some (E x)) (some x):=L9 rfl
def Iz {c:Option Out}:mC E c (dec E c):=iU _ _
def Ic {c:Bool} {a b:Option Out} {q w:Option T} (z:mC E a q) (B:mC E b w):mC E (bif c then a else b) (bif c then q else w):=zx rfl z B
def Ih {p:Prop} [Decidable p] {a:Option Out} {q:Option T} (h:mC E a q):mC E (check p a) (check p q):=fV id h
def Ig {α β:Type} (enc:α->β) [gJ enc] {l:List α} {i:Int} {k:α->Option Out} {k':α->Option T} (h:∀x,mC E (k x) (k' x)):mC E (aW (l.map enc) i λc=>rU enc c k) (aW l i k'):=Zc rfl h
def In {α β:Type} (enc:α->β) [gJ enc] {l:List α} {i:Nat} {k:α->Option Out} {k':α->Option T} (h:∀x,mC E (k x) (k' x)):mC E (ek (l.map enc) i λc=>rU enc c k) (ek l i k'):=SG rfl h
def Ik {U:Type} {enc:U->AV} [gJ enc] {c:Option Out} {k:U->Option Out} {k':U->Option T} (h:∀y,mC E (k y) (k' y)):mC E (wN c λr=>rU enc r k) (Option.bind (dec (EN enc) c) k'):=I_call (iU _ _) h
end
def nU {T:Type} {E:T->Out} [gJ E] {raw body c:Option Out} {t:Option T} {r:T} (z:t=some r) (q:mC E raw t) (w:body=raw) (h:∀{r:Out},body=some r->c=some r):dec E c=some r:=
 iV (h (w.trans (q _ z)))
class Gu (K:r5):Prop where
 is:∀a b:K.T,∃(inst:Decidable (a=b)),vK (K.enc a) (K.enc b)=some (decide (a=b))
section
variable {R:Type}
noncomputable def Ai {K V:Type} (l:List (K×V)) (key:K):Option Nat:=open Classical in l.findIdx? λp=>decide (key=p.1)
noncomputable def wE {K V:Type} (l:List (K×V)) (key:K) (v:V):List (K×V):=match Ai l key with
 |some i=>l.set i (key,v)
 |none=>l++[(key,v)]
noncomputable def getM {K V:Type} (l:List (K×V)) (key:K):Option V:=(Ai l key).bind λi=>(l[i]?).map (·.2)
noncomputable def tO {K V:Type} (l:List (K×V)) (key:K) (k:V->Option R) (z:Option R):Option R:=match getM l key with
 |some v=>k v
 |none=>z
def tH {α:Type} (x:α) (k:α->Option R):Option R:=k x
end
def Lz {K:r5} [Gu K] {V:Type} (key:K.T):∀l:List (K.T×V),pJ (K.enc key) (l.map λp=>K.enc p.1)=some (Ai l key):=by intro l;induction l with
 |nil=>rfl
 |cons p l q=>
  obtain⟨inst,h⟩:=Gu.is (K:=K) key p.1;rw[aS,pJ,h];unfold Ai;rw[tU];by_cases e:key=p.1
  .simp[e]
  .have:decide (key=p.1)=false:=by simpa using e
   rw[this];simp only[q,cR,e,tV,cW,eC];rfl
def WN {K V:Type} {l:List (K×V)} {key:K} {i:Nat} (h:Ai l key=some i):∃q:i<l.length,(l[i]'q).1=key:=by unfold Ai at h;rw[xL] at h;obtain⟨q,w,_⟩:=h;simp only[jZ] at w;exact⟨q,w.symm⟩
def yt {K V:r5} [gJ K.enc] [gJ V.enc]:∀{a b:List (K.T×V.T)},(dO K V a).1=(dO K V b).1->(dO K V a).2=(dO K V b).2->a=b:=by intro a;induction a with
 |nil=>intro b h _;cases b with
  |nil=>rfl
  |cons x b=>simp[dO] at h
 |cons x a z=>intro b h q;cases b with
  |nil=>simp[dO] at h
  |cons y b=>simp only[dO,aS,dN] at h q;obtain⟨x1,x2⟩:=x;obtain⟨B,D⟩:=y;have e1:x1=B:=gJ.inj _ _ h.1;have w:x2=D:=gJ.inj _ _ q.1;rw[e1,w,z h.2 q.2]
instance {K V:r5} [gJ K.enc] [gJ V.enc]:gJ (dO K V):=⟨λa b h=>yt (aK Prod.fst h) (aK Prod.snd h)⟩
instance {U:Type} {enc:U->List AV} [gJ enc]:gJ (Ty enc):=⟨λa b h=>by
 cases a<;>cases b<;>simp only[Ty,AV.ref.injEq,reduceCtorEq] at h
 .rfl
 .rw[gJ.inj _ _ h]⟩
instance {K:r5} {E:Fu} [gJ K.enc] [gJ E.enc]:gJ (Ij K E):=⟨λa b=>by
 induction a generalizing b with
 |nil=>intro h;cases b with
  |nil=>rfl
  |cons y b=>simp[Ij] at h
 |cons x a G=>intro h;cases b with
  |nil=>simp[Ij] at h
  |cons y b=>
   simp only[Ij,aS,bB,dN] at h;obtain⟨⟨B,D⟩,q,F⟩:=h;obtain⟨x1,x2⟩:=x;obtain⟨H,w⟩:=y;have z:x2=w:=by
    cases x2<;>cases w<;>simp only[cR,zF,aN,reduceCtorEq] at q
    .rfl
    .rw[map_inj gJ.inj _ _ q]
   have e1:x1=H:=gJ.inj _ _ B
   rw[e1,z,G b (by simp only[Ij];rw[D,F])]⟩
def acF {K V:r5} [Gu K] (key:K.T) (l:List (K.T×V.T)):Uu (K.enc key) (dO K V l).1 (dO K V l).2=some ((getM l key).map V.enc):=by unfold Uu dO getM;rw[Lz];cases h:Ai l key with
 |none=>rfl
 |some i=>obtain⟨q,_⟩:=WN h;simp[aM q]
def R4 {K V:r5} {l:List (K.T×V.T)} {key:K.T} {v:V.T} {i:Nat} (h:Ai l key=some i):dO K V (l.set i (key,v))=((dO K V l).1,(dO K V l).2.set i (V.enc v)):=by
 obtain⟨B,e⟩:=WN h;unfold dO;rw[bB];constructor
 .rw[jm];apply oE
  .simp
  .intro j w z;rw[List.getElem_set];split
   .rename_i q;subst q;simp[e]
   .rfl
 .rw[jm]
def acI {K V:r5} [Gu K] (key:K.T) (v:V.T) (l:List (K.T×V.T)):Cf (K.enc key) (V.enc v) (dO K V l).1 (dO K V l).2=some (dO K V (wE l key v)):=by have q:pJ (K.enc key) (dO K V l).1=some (Ai l key):=Lz key l;unfold Cf wE;rw[q];cases h:Ai l key with
 |none=>simp[dO]
 |some i=>simp only[R4 h]
section
variable {T:Type} {E:T->Out}
def I_look {K V:r5} [Gu K] [gJ V.enc] {l:List (K.T×V.T)} {key:K.T} {k:V.T->Option Out} {k':V.T->Option T} {z:Option Out} {w:Option T} (h:∀y,mC E (k y) (k' y)) (B:mC E z w):
  mC E (Lv (Uu (K.enc key) (dO K V l).1 (dO K V l).2) (λv=>rU V.enc v k) z) (tO l key k' w):=by
 intro x q;unfold tO at q;unfold Lv;rw[acF];cases e:getM l key with
 |none=>rw[e] at q;exact B _ q
 |some v=>rw[e] at q;simp only[cR];rw[je];exact h _ _ q
def I_put {K V:r5} [Gu K] [gJ K.enc] [gJ V.enc] {l:List (K.T×V.T)} {key:K.T} {a:AV} {v:V.T} {k:List (K.T×V.T)->Option Out} {k':List (K.T×V.T)->Option T} (q:a=V.enc v) (h:∀m,mC E (k m) (k' m)):
  mC E (UQ (Cf (K.enc key) a (dO K V l).1 (dO K V l).2) λp=>rU (dO K V) p k) (tH (wE l key v) k'):=by
 subst q;intro x w;unfold UQ;rw[acI];simp only[je];exact h _ _ w
def jD {A:Type} (enc:A->List AV) (k:Nat):A->List AV:=λx=>(enc x).set k .hole
abbrev oV {V:Type} (enc:V->List AV):List (Option (List V))->List (Option (List (List AV))):=List.map (Option.map (List.map enc))
instance {V:Type} (enc:V->List AV) [gJ enc]:gJ (oV enc):=⟨λa b h=>by
 refine map_inj (λx y e=> ?_) _ _ h;cases x<;>cases y<;>simp at e⊢
 exact map_inj gJ.inj _ _ e⟩
instance {V:Type} (enc:V->List AV) [gJ enc]:gJ (List.map (Option.map (List.map enc))):=inferInstanceAs (gJ (oV enc))
def RB {R V:Type} (q:List (Option (List V))) (i:Nat) (k:List V->List (Option (List V))->Option R):Option R:=match q[i]? with
 |some (some w)=>k w (q.set i none)
 |_=>none
def nrT {R V:Type} (q:List (Option (List V))) (i:Nat) (k:List V->Option R):Option R:=match q[i]? with
 |some (some w)=>k w
 |_=>none
def Bn {q A V:Type} (rQ:q->List V->A):List q->List (Option (List V))->Option (List A)
 |[],[]=>some []
 |x::xs,some y::w=>(Bn rQ xs w).map (rQ x y:: ·)
 |_,_=>none
def PG {R q A V:Type} (rQ:q->List V->A) (xs:List q) (w:List (Option (List V))) (k:List A->Option R):Option R:=match Bn rQ xs w with
 |some l=>k l
 |none=>none
def I_nr {V:Type} {enc:V->List AV} [gJ enc] {Y:List (Option (List V))} {i:Nat} {k:List V->Option Out} {k':List V->Option T} (h:∀w,mC E (k w) (k' w)):
  mC E (RA (oV enc Y) i λc=>rU (List.map enc) c k) (nrT Y i k'):=by
 intro x q;unfold nrT at q;split at q
 .rename_i w z;have e1:(oV enc Y)[i]? =some (some (w.map enc)):=by simp[z]
  unfold RA;rw[e1];simp only;rw[je];exact h _ _ q
 .cases q
def Zd {V:Type} {enc:V->List AV} [gJ enc] {Y:List (Option (List V))} {i:Nat} {k:List V->List (Option (List V))->Option Out} {k':List V->List (Option (List V))->Option T} (h:∀q y,mC E (k q y) (k' q y)):
  mC E (RA (oV enc Y) i λc=>rU (List.map enc) c λq=>rU (oV enc) ((oV enc Y).set i none) λy=>k q y) (RB Y i k'):=by
 intro x w;unfold RB at w;split at w
 .rename_i q B;have e1:(oV enc Y)[i]? =some (some (q.map enc)):=by simp[B]
  have z:(oV enc Y).set i none=oV enc (Y.set i none):=by rw[oV,jm];rfl
  unfold RA;rw[e1];simp only;rw[je,z,je];exact h _ _ _ w
 .cases w
def L8 {V:Type} {enc:V->List AV} [gJ enc] {Y:List (Option (List V))} {i:Nat} {L:List (List AV)} {q:List V} {k:List (Option (List V))->Option Out} {k':List (Option (List V))->Option T} (z:L=q.map enc) (h:∀y,mC E (k y) (k' y)):
  mC E (check (i<(oV enc Y).length) (rU (oV enc) ((oV enc Y).set i (some L)) k)) (check (i<Y.length) (tH (Y.set i (some q)) k')):=by
 subst z;refine fV ah ?_;have w:(oV enc Y).set i (some (q.map enc))=oV enc (Y.set i (some q)):=by rw[oV,jm];rfl
 rw[w,je];exact h _
def K5 {B A V:Type} {w:B->List AV} {enc:A->List AV} {q:V->List AV} {rQ:B->List V->A} {k s:Nat} (H:∀x z,(w x).set k (.dK s (z.map q))=enc (rQ x z)):∀{xs:List B} {F:List (Option (List V))} {l:List A},Bn rQ xs F=some l->
  ∃c,oS (oV q F)=some c/\wG k s (xs.map w) c=l.map enc
 |[],[],l,h=>by simp only[Bn,aN] at h;subst h;exact⟨[],rfl,rfl⟩
 |x::xs,some y::F,l,h=>by
  simp only[Bn,bZ] at h;obtain⟨K,D,rfl⟩:=h;obtain⟨c,G,I⟩:=K5 H D;refine⟨y.map q::c,?_,?_⟩
  .simp only[oV,aS,cR,oS] at G⊢;rw[G];rfl
  .simp only[aS,wG,H,I]
 |[],_::_,l,h=>by simp[Bn] at h
 |_::_,[],l,h=>by simp[Bn] at h
 |_::_,none::_,l,h=>by simp[Bn] at h
def SF {B A V:Type} {Z2:B->List AV} {enc:A->List AV} [gJ enc] {Z1:V->List AV} {rQ:B->List V->A} {q s:Nat} {xs:List B} {D:List (Option (List V))} {k:List A->Option Out} {k':List A->Option T} (h:∀m,mC E (k m) (k' m))
  (I:∀x z,(Z2 x).set q (.dK s (z.map Z1))=enc (rQ x z):=by intro _ _;rfl):
  mC E (SR (oS (oV Z1 D)) λc=>rU (List.map enc) (wG q s (xs.map Z2) c) k) (PG rQ xs D k'):=by
 intro x w;unfold PG at w;split at w
 .rename_i m H;obtain⟨c,F,G⟩:=K5 I H;unfold SR;rw[F];simp only;rw[G,je];exact h _ _ w
 .cases w
def L6 {V:Type} {enc:V->List AV} [gJ enc] {Y Z:List (Option (List V))} {k:List (Option (List V))->Option Out} {k':List (Option (List V))->Option T} (h:∀y,mC E (k y) (k' y)):
  mC E (rU (oV enc) (oV enc Y++oV enc Z) k) (tH (Y++Z) k'):=by
 have e:oV enc Y++oV enc Z=oV enc (Y++Z):=by rw[oV,bM]
 rw[e,je];exact h _
def L7 {U:Type} {q:U->Out} {c:Option Out} {f:Option U} {w:AV->List (Nat×Ob)->Option Out} {k':U->Option T} (D:mC q c f) (h:∀y,mC E (w (q y).1 (q y).2) (k' y)):mC E (vC c w) (Option.bind f k'):=by intro x F;obtain⟨y,z,B⟩:=bind_some F;rw[D _ z];unfold vC;exact h _ _ B
def Zb {U V:Type} {q:U×V->Out} {c:Option Out} {f:Option (U×V)} {kk:AV->List (Nat×Ob)->Option Out} {k':U->V->Option T} (w:mC q c f) (h:∀y v,mC E (kk (q (y,v)).1 (q (y,v)).2) (k' y v)):mC E (vC c kk) (Bq f k'):=
 L7 w λp=>h p.1 p.2
def adT {U:Type} {enc:U->List AV} [gJ enc] {o:Option U} {k:U->Option Out} {k':U->Option T} (h:∀x,mC E (k x) (k' x)):mC E (Yz (Ty enc o) λw=>rU enc w k) (YB o k'):=by intro x q;cases o with
 |none=>simp[YB] at q
 |some y=>unfold Yz Ty;simp only;rw[je];exact h _ _ q
def Ze {q:Nat} {o:Ob} {l:List (Nat×Ob)} {k:Ob->List (Nat×Ob)->Option Out} {t:Option T} (h:mC E (k o l) t):mC E (nW q ((q,o)::l) k) t:=by
 have:nW q ((q,o)::l) k=k o l:=by unfold nW;simp only[fZ,ai]
 rw[this];exact h
def FD:∀l:List AV,lW (l.map .pv)=some l
 |[]=>rfl
 |a::l=>by simp only[aS,lW,FD l,cR]
def I_asLp {xs:List AV} {k:List AV->Option Out} {t:Option T} (h:mC E (k xs) t):mC E (Zt (.lp xs) k) t:=by unfold Zt;exact h
def I_nil {k:Option Out} {t:Option T} (h:mC E k t):mC E (Nu [] k) t:=by unfold Nu;exact h
def I_res {U:Type} {enc:U->AV} [gJ enc] {y:U} {k:U->Option Out} {t:Option T} (h:mC E (k y) t):mC E (rU enc (enc y) k) t:=by rw[je];exact h
end
end Go.AM
set_option synthInstance.maxSize 100000
set_option synthInstance.maxHeartbeats 1000000
namespace Go.AM
universe u v
class Rw {α:Sort u} (a:α) (b:outParam α):Prop where
 e:a=b
class Hy (α:Type) (enc:outParam (α->List AV)):Prop
class En {α:Type} (l:List α) (enc:outParam (α->List AV)):Prop
def tl {α:Type} (enc:α->List AV) (x:α):α:=x
def tg {α:Type} (enc:α->AV) (x:α):α:=x
def tw {α:Type} (enc:α->List AV) (x:List α):List α:=x
class Y9 (α:Type) (f:outParam (α->AV)):Prop
class Im {T:Type} (E:T->Out) (t:Option T) (c:outParam (Option Out)):Prop where
 p:mC E c t
section
instance (priority:=low) iSelf {α:Sort u} (a:α):Rw a a:=⟨rfl⟩
instance (priority:=low) iEn {α:Type} {enc:α->List AV} [Hy α enc] (l:List α):En l enc:=⟨⟩
instance iEnE {β:Type} {x:List β} {s:Nat} {f:β->List AV}:En (tl (gV s f) x) f:=⟨⟩
section
variable {α:Type} {enc:α->List AV} {l m:List α}
instance [En l enc]:En (l++m) enc:=⟨⟩
instance [En l enc] {i:Nat} {x:α}:En (l.set i x) enc:=⟨⟩
instance [En l enc] {i:Nat}:En (l.take i) enc:=⟨⟩
instance [En l enc] {i:Nat}:En (l.drop i) enc:=⟨⟩
end
instance:Hy Int (cg .i64):=⟨⟩
instance:Hy (List UInt8) jv:=⟨⟩
instance:Hy Bool qF:=⟨⟩
instance:Hy (List Int) (gV 1 (cg .i64)):=⟨⟩
instance:Hy (List (List UInt8)) (gV 1 jv):=⟨⟩
variable {α:Type u} {β:Type v}
instance iCons {a q:α} {l w:List α} [Rw a q] [Rw l w]:Rw (a::l) (q::w):=⟨by cases Rw.e (a:=a) (b:=q);cases Rw.e (a:=l) (b:=w);rfl⟩
instance iPair {a q:α} {b w:β} [Rw a q] [Rw b w]:Rw (a,b) (q,w):=⟨by cases Rw.e (a:=a) (b:=q);cases Rw.e (a:=b) (b:=w);rfl⟩
instance iSet {f:α->β} {l:List α} {L:List β} {i q:Nat} {x:α} {y:β} [Rw (l.map f) L] [Rw i q] [Rw (f x) y]:Rw ((l.set i x).map f) (L.set q y):=⟨by cases Rw.e (a:=(l.map f)) (b:=L);cases Rw.e (a:=i) (b:=q);cases Rw.e (a:=(f x)) (b:=y);exact jm ..⟩
instance iApp {f:α->β} {l m:List α} {L M:List β} [Rw (l.map f) L] [Rw (m.map f) M]:Rw ((l++m).map f) (L++M):=⟨by cases Rw.e (a:=(l.map f)) (b:=L);cases Rw.e (a:=(m.map f)) (b:=M);exact bM ..⟩
instance iMc {f:α->β} {x:α} {y:β} {l:List α} {L:List β} [Rw (f x) y] [Rw (l.map f) L]:Rw ((x::l).map f) (y::L):=⟨by cases Rw.e (a:=(f x)) (b:=y);cases Rw.e (a:=(l.map f)) (b:=L);rfl⟩
instance iMn {f:α->β}:Rw (([]:List α).map f) []:=⟨rfl⟩
instance iTake {f:α->β} {l:List α} {L:List β} {n q:Nat} [Rw (l.map f) L] [Rw n q]:Rw ((l.take n).map f) (L.take q):=⟨by cases Rw.e (a:=(l.map f)) (b:=L);cases Rw.e (a:=n) (b:=q);exact List.map_take ..⟩
instance iDrop {f:α->β} {l:List α} {L:List β} {n q:Nat} [Rw (l.map f) L] [Rw n q]:Rw ((l.drop n).map f) (L.drop q):=⟨by cases Rw.e (a:=(l.map f)) (b:=L);cases Rw.e (a:=n) (b:=q);exact kV ..⟩
instance iRep {f:α->β} {n q:Nat} {x:α} {y:β} [Rw n q] [Rw (f x) y]:Rw ((List.replicate n x).map f) (List.replicate q y):=⟨by cases Rw.e (a:=n) (b:=q);cases Rw.e (a:=(f x)) (b:=y);exact oF ..⟩
instance iELst {U:Type} {s:Nat} {f:U->List AV} {l:List U} {L:List (List AV)} [Rw (l.map f) L]:Rw (gV s f l) [.dK s L]:=⟨by cases Rw.e (a:=(l.map f)) (b:=L);rfl⟩
instance iEInt {k:IntKind} {x y:Int} [Rw x y]:Rw (cg k x) [.int k y]:=⟨by cases Rw.e (a:=x) (b:=y);rfl⟩
instance {x y:AV} [Rw x y]:Rw (SV.pv x) (.pv y):=⟨by cases Rw.e (a:=x) (b:=y);rfl⟩
instance {k:IntKind} {x y:Int} [Rw x y]:Rw (AV.int k x) (.int k y):=⟨by cases Rw.e (a:=x) (b:=y);rfl⟩
instance {s:Nat} {x y:List (List AV)} [Rw x y]:Rw (AV.dK s x) (.dK s y):=⟨by cases Rw.e (a:=x) (b:=y);rfl⟩
instance {x y:Nat} [Rw x y]:Rw (AV.self x) (.self y):=⟨by cases Rw.e (a:=x) (b:=y);rfl⟩
instance {x y:List AV} [Rw x y]:Rw (AV.agg x) (.agg y):=⟨by cases Rw.e (a:=x) (b:=y);rfl⟩
instance {x y:List AV} [Rw x y]:Rw (AV.lR x) (.lR y):=⟨by cases Rw.e (a:=x) (b:=y);rfl⟩
instance {x y:Bool} [Rw x y]:Rw (AV.bool x) (.bool y):=⟨by cases Rw.e (a:=x) (b:=y);rfl⟩
instance {x y:List UInt8} [Rw x y]:Rw (AV.str x) (.str y):=⟨by cases Rw.e (a:=x) (b:=y);rfl⟩
instance {i s a b c d:Nat} [Rw a c] [Rw b d]:Rw (SV.sub i s a b) (.sub i s c d):=⟨by cases Rw.e (a:=a) (b:=c);cases Rw.e (a:=b) (b:=d);rfl⟩
instance {e s:Nat} {x y:List (List AV)} [Rw x y]:Rw (Ob.row e s x) (.row e s y):=⟨by cases Rw.e (a:=x) (b:=y);rfl⟩
instance {e:Nat} {x y:List SV} [Rw x y]:Rw (Ob.box e x) (.box e y):=⟨by cases Rw.e (a:=x) (b:=y);rfl⟩
instance {U:Type} {Q:U->AV} {x:U} {a:AV} [Rw (Q x) a]:Rw (EN Q x) (a,[]):=⟨by cases Rw.e (a:=Q x) (b:=a);rfl⟩
instance iLen {U:Type} {l:List U} {enc:U->List AV} {L:List (List AV)} [En l enc] [Rw (l.map enc) L]:Rw l.length L.length:=⟨by cases Rw.e (a:=(l.map enc)) (b:=L);exact(aV ..).symm⟩
instance {x y:Nat} [Rw x y]:Rw (x:Int) (y:Int):=⟨by cases Rw.e (a:=x) (b:=y);rfl⟩
instance {x y:Int} [Rw x y]:Rw (toNat x) (toNat y):=⟨by cases Rw.e (a:=x) (b:=y);rfl⟩
instance {k:IntKind} {x y:Int} [Rw x y]:Rw (wrap k x) (wrap k y):=⟨by cases Rw.e (a:=x) (b:=y);rfl⟩
instance [HAdd α α α] {a b q w:α} [Rw a q] [Rw b w]:Rw (a+b) (q+w):=⟨by cases Rw.e (a:=a) (b:=q);cases Rw.e (a:=b) (b:=w);rfl⟩
instance [HSub α α α] {a b q w:α} [Rw a q] [Rw b w]:Rw (a-b) (q-w):=⟨by cases Rw.e (a:=a) (b:=q);cases Rw.e (a:=b) (b:=w);rfl⟩
instance [HMul α α α] {a b q w:α} [Rw a q] [Rw b w]:Rw (a *b) (q *w):=⟨by cases Rw.e (a:=a) (b:=q);cases Rw.e (a:=b) (b:=w);rfl⟩
instance [LT α] {a b q w:α} [Rw a q] [Rw b w]:Rw (a<b) (q<w):=⟨by cases Rw.e (a:=a) (b:=q);cases Rw.e (a:=b) (b:=w);rfl⟩
instance [LE α] {a b q w:α} [Rw a q] [Rw b w]:Rw (a<=b) (q<=w):=⟨by cases Rw.e (a:=a) (b:=q);cases Rw.e (a:=b) (b:=w);rfl⟩
instance [LT α] {a b q w:α} [Rw a q] [Rw b w]:Rw (a>b) (q>w):=⟨by cases Rw.e (a:=a) (b:=q);cases Rw.e (a:=b) (b:=w);rfl⟩
instance [LE α] {a b q w:α} [Rw a q] [Rw b w]:Rw (a>=b) (q>=w):=⟨by cases Rw.e (a:=a) (b:=q);cases Rw.e (a:=b) (b:=w);rfl⟩
instance {a b q w:α} [Rw a q] [Rw b w]:Rw (a=b) (q=w):=⟨by cases Rw.e (a:=a) (b:=q);cases Rw.e (a:=b) (b:=w);rfl⟩
instance {p q w z:Prop} [Rw p w] [Rw q z]:Rw (p/\q) (w/\z):=⟨by cases Rw.e (a:=p) (b:=w);cases Rw.e (a:=q) (b:=z);rfl⟩
instance {p q:Prop} [Rw p q] [i:Decidable p] [j:Decidable q]:Rw (decide p) (decide q):=⟨by
 cases Rw.e (a:=p) (b:=q);congr⟩
instance [BEq α] {a b q w:α} [Rw a q] [Rw b w]:Rw (a==b) (q==w):=⟨by cases Rw.e (a:=a) (b:=q);cases Rw.e (a:=b) (b:=w);rfl⟩
instance [BEq α] {a b q w:α} [Rw a q] [Rw b w]:Rw (a !=b) (q !=w):=⟨by cases Rw.e (a:=a) (b:=q);cases Rw.e (a:=b) (b:=w);rfl⟩
instance {a q:Bool} [Rw a q]:Rw (!a) (!q):=⟨by cases Rw.e (a:=a) (b:=q);rfl⟩
instance {a b q w:Bool} [Rw a q] [Rw b w]:Rw (a&&b) (q&&w):=⟨by cases Rw.e (a:=a) (b:=q);cases Rw.e (a:=b) (b:=w);rfl⟩
instance iRun {P:Program} {H:Nat->Hint} {eX:dX} {f:Nat} {a q:List SV} {l w:List (Nat×Ob)} [Rw a q] [Rw l w]:Rw (run P H eX f a l) (run P H eX f q w):=⟨by cases Rw.e (a:=a) (b:=q);cases Rw.e (a:=l) (b:=w);rfl⟩
instance iHead {P:Program} {C:lY} {H:Nat->Hint} {eX:dX} {f key:Nat} {z:List Nat} {a q:List (Nat×SV)} {l w:List (Nat×Ob)} [Rw a q] [Rw l w]:Rw (pI P C H eX f key z a l) (pI P C H eX f key z q w):=⟨by cases Rw.e (a:=a) (b:=q);cases Rw.e (a:=l) (b:=w);rfl⟩
end
section
variable {T:Type} {E:T->Out}
instance mSome {x:T} {y:Out} [Rw (E x) y]:Im E (some x) (some y):=⟨L9 (Rw.e (a:=E x)).symm⟩
instance mDeref {U:Type} {enc:U->List AV} [Hy U enc] [gJ enc] {o:Option U} {k:U->Option Out} {k':U->Option T} [∀x,Im E (k' x) (k x)]:Im E (YB o k') (Yz (Ty enc o) λq=>rU enc q k):=⟨adT λx=>Im.p (t:=k' x)⟩
instance mDec {c c':Option Out} [Rw c c']:Im E (dec E c) c':=⟨by rw[<-Rw.e (a:=c) (b:=c')];exact Iz⟩
instance mCond {c c':Bool} {a b:Option Out} {q w:Option T} [Rw c' c] [Im E q a] [Im E w b]:Im E (bif c' then q else w) (bif c then a else b):=⟨zx (Rw.e (a:=c')).symm (Im.p (t:=q)) (Im.p (t:=w))⟩
instance mCheck {p q:Prop} [Decidable q] [Rw q p] [Decidable p] {a:Option Out} {w:Option T} [Im E w a]:Im E (check q w) (check p a):=⟨fV (λh=>by rw[<-Rw.e (a:=q) (b:=p)];exact h) (Im.p (t:=w))⟩
instance mGetK {α:Type} {enc:α->List AV} {l:List α} [En l enc] [gJ enc] {L:List (List AV)} [Rw (l.map enc) L] {i q:Int} [Rw q i] {k:α->Option Out} {k':α->Option T} [h:∀x,Im E (k' (tl enc x)) (k x)]:Im E (aW l q k') (aW L i λc=>rU enc c k):=⟨Vp (Rw.e (a:=l.map enc)).symm (Rw.e (a:=q)).symm λx=>(h x).p⟩
instance mGetN {α:Type} {enc:α->List AV} {l:List α} [En l enc] [gJ enc] {L:List (List AV)} [Rw (l.map enc) L] {i q:Nat} [Rw q i] {k:α->Option Out} {k':α->Option T} [h:∀x,Im E (k' (tl enc x)) (k x)]:Im E (ek l q k') (ek L i λc=>rU enc c k):=⟨adU (Rw.e (a:=l.map enc)).symm (Rw.e (a:=q)).symm λx=>(h x).p⟩
instance mGetb {l:List UInt8} {i q:Int} [Rw q i] {k:UInt8->Option Out} {k':UInt8->Option T} [∀x,Im E (k' x) (k x)]:Im E (aW l q k') (aW l i k):=⟨by rw[Rw.e (a:=q) (b:=i)];exact I_getb λx=>Im.p (t:=k' x)⟩
instance mCall {U:Type} {enc:U->AV} [gJ enc] {c c':Option Out} [Rw c' c] {k:U->Option Out} {k':U->Option T} [h:∀y,Im E (k' (tg enc y)) (k y)]:Im E (Option.bind (dec (EN enc) c') k') (wN c λr=>rU enc r k):=⟨by rw[Rw.e (a:=c') (b:=c)];exact Ik λy=>(h y).p⟩
end
section
variable {α β:Type}
def pA (enc:α->List AV):α->AV:=λx=> .agg (enc x)
def pL (n:Nat) (enc:α->List AV):List α->AV:=λx=> .dK n (x.map enc)
def pP (f:α->AV) (g:β->AV):α×β->AV:=λx=> .lR [f x.1,g x.2]
def pW (e n:Nat) (enc:α->List AV):List α->AV:=λx=> .lR [.lR [.self e, .dK n (x.map enc)]]
def pM (f:α->AV) (g:β->AV):List (α×β)->AV:=λx=> .mp (dO ⟨α,f⟩ ⟨β,g⟩ x).1 (dO ⟨α,f⟩ ⟨β,g⟩ x).2
def pF (n:Nat) (enc:α->List AV):List α->AV:=λx=> .fn n [.ref [.dK 2 (x.map enc)]]
def pU:Unit->AV:=λ_=> .lR []
variable {f:α->AV} {g:β->AV} {enc:α->List AV} {n e:Nat}
instance {k:IntKind}:gJ (AV.int k):=⟨λa b h=>by injection h⟩
instance:gJ AV.bool:=⟨λa b h=>by injection h⟩
instance:gJ AV.str:=⟨λa b h=>by injection h⟩
instance:gJ AV.self:=⟨λa b h=>by injection h⟩
instance:gJ pU:=⟨λ_ _ _=>rfl⟩
instance [gJ enc]:gJ (pA enc):=⟨λa b h=>by injection h with h;exact gJ.inj _ _ h⟩
instance [gJ enc]:gJ (pL n enc):=⟨λa b h=>by injection h with _ h;exact map_inj gJ.inj _ _ h⟩
instance [gJ f] [gJ g]:gJ (pP f g):=⟨λa b h=>by
 simp only[pP,AV.lR.injEq,dN,fG] at h
 exact Prod.ext (gJ.inj _ _ h.1) (gJ.inj _ _ h.2)⟩
instance [gJ enc]:gJ (pW e n enc):=⟨λa b h=>by
 simp only[pW,AV.lR.injEq,dN,AV.dK.injEq,gD,fG] at h
 exact map_inj gJ.inj _ _ h⟩
instance [gJ enc]:gJ (pF n enc):=⟨λa b h=>by
 simp only[pF,AV.fn.injEq,AV.ref.injEq,dN,AV.dK.injEq,gD,fG] at h
 exact map_inj gJ.inj _ _ h⟩
instance [i:gJ f] [j:gJ g]:gJ (pM f g):=⟨λa b h=>by injection h with q w;exact @yt ⟨α,f⟩ ⟨β,g⟩ i j _ _ q w⟩
instance {l:List α} {L:List (List AV)} [Rw (l.map enc) L]:Rw (pL n enc l) (.dK n L):=⟨by cases Rw.e (a:=l.map enc) (b:=L);rfl⟩
instance {x:α} {y:β} {a b:AV} [Rw (f x) a] [Rw (g y) b]:Rw (pP f g (x,y)) (.lR [a,b]):=⟨by cases Rw.e (a:=f x) (b:=a);cases Rw.e (a:=g y) (b:=b);rfl⟩
instance {x:List α}:En (tg (pL n enc) x) enc:=⟨⟩
instance {x:List α×β}:En (tg (pP (pL n enc) g) x).1 enc:=⟨⟩
instance {x:β×List α}:En (tg (pP g (pL n enc)) x).2 enc:=⟨⟩
end
structure De0 where
 e:List (Nat×Ob)
 r:List (Nat×Ob)->Option Out->Option Out
 ok:∀k,r e k=k
structure De (T:Type) where
 e:T->List (Nat×Ob)
 r:List (Nat×Ob)->(T->Option Out)->Option Out
 ok:∀x k,r (e x) k=k x
structure It (α:Type) where
 e:α->Ob
 r:Ob->(α->Option Out)->Option Out
 ok:∀x k,r (e x) k=k x
noncomputable section
def unc (q:Nat) (o:Ob) (l:List (Nat×Ob)) (k:Ob->List (Nat×Ob)->Option Out):nW q ((q,o)::l) k=k o l:=by unfold nW;simp
def smk (o:Ob) (k:Option Out):D9 o o k=k:=by unfold D9;simp
def dZ:De0:=⟨[],Nu,λk=>by unfold Nu;rfl⟩
def dS (q:Nat) (w:Ob) (z:De0):De0:=⟨(q,w)::z.e,λl k=>nW q l λo l=>D9 o w (z.r l k),λk=>by rw[unc,smk,z.ok]⟩
def iR {α:Type} (e q:Nat) (enc:α->List AV) [gJ enc]:It (List α):=⟨λxs=> .row e q (xs.map enc),λo k=>PK e q o λc=>rU (List.map enc) c k,λx k=>by unfold PK;simp[je]⟩
def iM (w q:Nat) (K V:r5) [gJ K.enc] [gJ V.enc]:It (List (K.T×V.T)):=⟨λl=> .mp w q (dO K V l).1 (dO K V l).2,λo k=>PJ w q o λc=>rU (dO K V) c k,λx k=>by unfold PJ;simp[je]⟩
def iB {α:Type} (t:TypeId) (enc:α->List AV) [gJ enc]:It α:=⟨λx=> .box t (List.map .pv (enc x)),λo k=>Vt t o λc=>rU enc c k,λx k=>by unfold Vt;simp[je,FD]⟩
section
variable {α T:Type}
def dT (q:Nat) (w:Ob) (d:De T):De T:=⟨λx=>(q,w)::d.e x,λl k=>nW q l λo l=>D9 o w (d.r l k),λx k=>by rw[unc,smk,d.ok]⟩
def dI (q:Nat) (i:It α) (d:De T):De (α×T):=⟨λx=>(q,i.e x.1)::d.e x.2,λl k=>nW q l λo l=>i.r o λx=>d.r l λy=>k (x,y),λx k=>by rw[unc,i.ok,d.ok]⟩
def dJ (q:Nat) (i:It α) (z:De0):De α:=⟨λx=>(q,i.e x)::z.e,λl k=>nW q l λo l=>i.r o λx=>z.r l (k x),λx k=>by rw[unc,i.ok,z.ok]⟩
variable {U:Type}
def eD (Q:U->AV) (d:De T):U×T->Out:=λx=>(Q x.1,d.e x.2)
def eZ (Q:U->AV) (z:De0):U->Out:=λx=>(Q x,z.e)
def eR {V:Type} (Q:U->AV) (q e w:Nat) (enc:V->List AV):U×List V->Out:=λx=>(Q x.1,[(q, .row e w (x.2.map enc))])
instance {V:Type} {Q:U->AV} {q e sz:Nat} {enc:V->List AV} {x:U} {l:List V} {a:AV} {L:List (List AV)} [Rw (Q x) a] [Rw (l.map enc) L]:Rw (eR Q q e sz enc (x,l)) (a,[(q, .row e sz L)]):=⟨by cases Rw.e (a:=Q x) (b:=a);cases Rw.e (a:=l.map enc) (b:=L);rfl⟩
class RwI {V:Type} (i:It V) (x:V) (o:outParam Ob):Prop where
 e:i.e x=o
class RwD {V:Type} (d:De V) (x:V) (l:outParam (List (Nat×Ob))):Prop where
 e:d.e x=l
instance (priority:=low) {i:It α} {x:α}:RwI i x (i.e x):=⟨rfl⟩
instance {V:Type} {e sz:Nat} {enc:V->List AV} [gJ enc] {l:List V} {L:List (List AV)} [j:Rw (l.map enc) L]:RwI (iR e sz enc) l (.row e sz L):=⟨by rw[<-j.e];rfl⟩
instance {q:Nat} {z:Ob} {d:De T} {w:T} {l:List (Nat×Ob)} [j:RwD d w l]:RwD (dT q z d) w ((q,z)::l):=⟨by rw[<-j.e];rfl⟩
instance {q:Nat} {i:It α} {d:De T} {x:α} {w:T} {o:Ob} {l:List (Nat×Ob)} [k:RwI i x o] [j:RwD d w l]:RwD (dI q i d) (x,w) ((q,o)::l):=⟨by rw[<-j.e,<-k.e];rfl⟩
instance {q:Nat} {i:It α} {z:De0} {x:α} {o:Ob} [k:RwI i x o]:RwD (dJ q i z) x ((q,o)::z.e):=⟨by rw[<-k.e];rfl⟩
instance {Q:U->AV} {d:De T} {x:U} {w:T} {a:AV} {l:List (Nat×Ob)} [i:Rw (Q x) a] [j:RwD d w l]:Rw (eD Q d (x,w)) (a,l):=⟨by rw[<-i.e,<-j.e];rfl⟩
def De.inj (d:De T) {a b:T} (h:d.e a=d.e b):a=b:=by
 have q:=d.ok a λx=>open Classical in if x=a then some (.DQ,[]) else none
 rw[h,d.ok] at q;simp at q;exact q.symm
instance {Q:U->AV} [gJ Q] {d:De T}:gJ (eD Q d):=⟨λa b h=>Prod.ext (gJ.inj _ _ (aK Prod.fst h)) (d.inj (aK Prod.snd h))⟩
instance {Q:U->AV} [gJ Q] {z:De0}:gJ (eZ Q z):=⟨λa b h=>gJ.inj _ _ (aK Prod.fst h)⟩
instance {V:Type} {Q:U->AV} [gJ Q] {q e sz:Nat} {enc:V->List AV} [gJ enc]:gJ (eR Q q e sz enc):=⟨λa b h=>by
 simp only[eR,bB,dN,Ob.row.injEq,gD,fG] at h
 exact Prod.ext (gJ.inj _ _ h.1) (map_inj gJ.inj _ _ h.2)⟩
end
end
section
variable {T U W:Type} {E:T->Out} {Q:U->AV} [gJ Q] {c c':Option Out}
def I_D {d:De W} {k:U->W->Option Out} {k':U×W->Option T} (h:∀y w,mC E (k y w) (k' (y,w))):mC E (vC c λr l=>d.r l λw=>rU Q r λy=>k y w) (Option.bind (dec (eD Q d) c) k'):=
 L7 (iU _ _) λy=>by simp only[eD,d.ok,je];exact h _ _
instance mCallZ {z:De0} [Rw c' c] {k:U->Option Out} {k':U->Option T} [h:∀y,Im E (k' (tg Q y)) (k y)]:Im E (Option.bind (dec (eZ Q z) c') k') (vC c λr l=>z.r l (rU Q r k)):=⟨by
 rw[Rw.e (a:=c') (b:=c)];exact L7 (iU _ _) λy=>by simp only[eZ,z.ok,je];exact(h y).p⟩
instance mCall2 {d:De W} [Rw c' c] {k:U->W->Option Out} {k':U->W->Option T} [h:∀y w,Im E (k' (tg Q y) w) (k y w)]:Im E (Bq (dec (eD Q d) c') k') (vC c λr l=>d.r l λw=>rU Q r λy=>k y w):=⟨by
 rw[Rw.e (a:=c') (b:=c)];exact I_D λy w=>(h y w).p⟩
instance mCall3 {q z:Type} {d:De (q×z)} [Rw c' c] {k:U->q->z->Option Out} {k':U->q->z->Option T} [h:∀y B D,Im E (k' (tg Q y) B D) (k y B D)]:Im E (Br (dec (eD Q d) c') k') (vC c λr l=>d.r l λw=>rU Q r λy=>k y w.1 w.2):=⟨by
 rw[Rw.e (a:=c') (b:=c)];exact I_D λy w=>(h y w.1 w.2).p⟩
instance mCall4 {q z B:Type} {d:De (q×z×B)} [Rw c' c] {k:U->q->z->B->Option Out} {k':U->q->z->B->Option T} [h:∀y D F G,Im E (k' (tg Q y) D F G) (k y D F G)]:Im E (tM (dec (eD Q d) c') k') (vC c λr l=>d.r l λw=>rU Q r λy=>k y w.1 w.2.1 w.2.2):=⟨by
 rw[Rw.e (a:=c') (b:=c)];exact I_D λy w=>(h y w.1 w.2.1 w.2.2).p⟩
instance mCall5 {q z B D:Type} {d:De (q×z×B×D)} [Rw c' c] {k:U->q->z->B->D->Option Out} {k':U->q->z->B->D->Option T} [h:∀y F G H I,Im E (k' (tg Q y) F G H I) (k y F G H I)]:Im E (FG (dec (eD Q d) c') k') (vC c λr l=>d.r l λw=>rU Q r λy=>k y w.1 w.2.1 w.2.2.1 w.2.2.2):=⟨by
 rw[Rw.e (a:=c') (b:=c)];exact I_D λy w=>(h y w.1 w.2.1 w.2.2.1 w.2.2.2).p⟩
instance mCall6 {q z B D F:Type} {d:De (q×z×B×D×F)} [Rw c' c] {k:U->q->z->B->D->F->Option Out} {k':U->q->z->B->D->F->Option T} [h:∀y G H I K L,Im E (k' (tg Q y) G H I K L) (k y G H I K L)]:Im E (PL (dec (eD Q d) c') k') (vC c λr l=>d.r l λw=>rU Q r λy=>k y w.1 w.2.1 w.2.2.1 w.2.2.2.1 w.2.2.2.2):=⟨by
 rw[Rw.e (a:=c') (b:=c)];exact I_D λy w=>(h y w.1 w.2.1 w.2.2.1 w.2.2.2.1 w.2.2.2.2).p⟩
instance mCallR {V:Type} {z e sz:Nat} {q:V->List AV} [gJ q] [Rw c' c] {k:U->List V->Option Out} {k':U->List V->Option T} [h:∀y w,Im E (k' (tg Q y) (tw q w)) (k y w)]:Im E (Bq (dec (eR Q z e sz q) c') k') (Dl c z e sz λr c2=>rU Q r λy=>rU (List.map q) c2 λxs=>k y xs):=⟨by
 rw[Rw.e (a:=c') (b:=c)];exact adS (iU _ _) λy w=>(h y w).p⟩
instance:Y9 Int (AV.int .i64):=⟨⟩
instance:Y9 Bool AV.bool:=⟨⟩
instance:Y9 (List UInt8) AV.str:=⟨⟩
end
section
variable {T:Type} {E:T->Out} {κ ν:Type} {f:κ->AV} {g:ν->AV} {l:List (κ×ν)} {key:κ} {a:AV}
instance mLook [Y9 κ f] [Y9 ν g] [Gu ⟨κ,f⟩] [i:gJ g] [Rw (f key) a] {k:ν->Option Out} {k':ν->Option T} {z:Option Out} {q:Option T} [h:∀y,Im E (k' (tg g y)) (k y)] [Im E q z]:Im E (tO l key k' q) (Lv (Uu a (dO ⟨κ,f⟩ ⟨ν,g⟩ l).1 (dO ⟨κ,f⟩ ⟨ν,g⟩ l).2) (λv=>rU g v k) z):=⟨by
 rw[<-Rw.e (a:=f key) (b:=a)];exact @I_look T E ⟨κ,f⟩ ⟨ν,g⟩ _ i l key k k' z q (λy=>(h y).p) Im.p⟩
instance mPut [Y9 κ f] [Y9 ν g] [Gu ⟨κ,f⟩] [i:gJ g] [Rw (f key) a] [j:gJ f] {v:ν} {b:AV} [Rw (g v) b] {k:List (κ×ν)->Option Out} {k':List (κ×ν)->Option T} [h:∀m,Im E (k' m) (k m)]:Im E (tH (wE l key v) k') (UQ (Cf a b (dO ⟨κ,f⟩ ⟨ν,g⟩ l).1 (dO ⟨κ,f⟩ ⟨ν,g⟩ l).2) λp=>rU (dO ⟨κ,f⟩ ⟨ν,g⟩) p k):=⟨by
 rw[<-Rw.e (a:=f key) (b:=a)];exact @I_put T E ⟨κ,f⟩ ⟨ν,g⟩ _ j i l key b v k k' (Rw.e (a:=g v)).symm λm=>(h m).p⟩
instance [Y9 κ f] [Y9 ν g]:Rw l.length (dO ⟨κ,f⟩ ⟨ν,g⟩ l).1.length:=⟨by simp[dO]⟩
end
