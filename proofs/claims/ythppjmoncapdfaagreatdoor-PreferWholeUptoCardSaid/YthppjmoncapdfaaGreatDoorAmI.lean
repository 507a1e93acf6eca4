/- THE ABSTRACT MACHINE. -/
import Derived.Test.YthppjmoncapdfaaGreatDoorAmT
set_option linter.all false
open Go.IntKind (wrap)
open Int (toNat)
namespace Go.AM
class gT {T α:Type} (enc:T→α):Prop where
 inj:∀a b,enc a=enc b→a=b
def bX (k:IntKind) (a:Int):List AV:=[.int k a]
def jG (s:List UInt8):List AV:=[.str s]
def qO (b:Bool):List AV:=[.bool b]
def iB {T:Type} (sz:Nat) (enc:T→List AV) (l:List T):List AV:=[.eH sz (l.map enc)]
theorem map_inj {T α:Type} {enc:T→α} (h:∀a b,enc a=enc b→a=b):∀(l m:List T),l.map enc=m.map enc→l=m:=by
 intro l
 induction l with
 |nil=>intro m hm;cases m with
  |nil=>rfl
  |cons x m=>simp at hm
 |cons x l ih=>intro m hm;cases m with
  |nil=>simp at hm
  |cons y m=>
   simp only [aP,dz] at hm;rw [h _ _ hm.1,ih _ hm.2]
instance {k:IntKind}:gT (bX k):=⟨fun a b h=>by simpa [bX] using h⟩
instance:gT jG:=⟨fun a b h=>by simpa [jG] using h⟩
instance:gT qO:=⟨fun a b h=>by simpa [qO] using h⟩
instance {T α:Type} {enc:T→α} [gT enc]:gT (List.map enc):=⟨map_inj gT.inj⟩
instance {T:Type} {sz:Nat} {enc:T→List AV} [gT enc]:gT (iB sz enc):=⟨fun a b h=>by
 simp only [iB,dz,AV.eH.injEq,fO,ig] at h
 exact map_inj gT.inj _ _ h⟩
section
variable {R:Type}
theorem kq {α T:Type} {enc:T→α} [gT enc] (d:T) (k:T→Option R):s9 enc (enc d) k=k d:=asE_pos gT.inj d k
theorem Py (r:AV) (k:AV→Option R):wQ (some (r,[])) k=k r:=Xi rfl k
theorem PB (nm e sz:Nat) (r:AV) (xs:List (List AV)) (k:AV→List (List AV)→Option R):Iv (some (r,[(nm, .row e sz xs)])) nm e sz k=k r xs:=Xj rfl k
theorem Vs {α:Type} [Inhabited α] {l:List α} {i:Nat} (h:i<l.length) (k:α→Option R):gj l i k=k (l.getD i default):=
 iD (by rw [aH h,aQ,aH h];rfl) k
end
theorem YI (n:Int):wrap .i64 n=if 9223372036854775808≤n % 18446744073709551616 then n % 18446744073709551616-18446744073709551616 else n % 18446744073709551616:=by
 show (if (true&&decide (n % 18446744073709551616≥9223372036854775808))=true then n % 18446744073709551616-18446744073709551616 else n % 18446744073709551616)=_;simp only [fG,iZ,ge_iff_le]
theorem kJ {n:Int} (h0: -9223372036854775808≤n) (h1:n≤9223372036854775807):wrap .i64 n=n:=by
 rw [YI];split<;>omega
theorem UU (n:Int):wrap .u64 n=n % 18446744073709551616:=by
 show (if (false&&decide (n % 18446744073709551616≥9223372036854775808))=true then n % 18446744073709551616-18446744073709551616 else n % 18446744073709551616)=_;simp
theorem sM {n:Int} (h0:0≤n) (h1:n≤18446744073709551615):wrap .u64 n=n:=by
 rw [UU];omega
theorem bG {i:Nat} (h:i<4611686018427387904):wrap .i64 ((i:Int)+1)=((i+1:Nat):Int):=by
 rw [kJ (by omega) (by omega)];omega
theorem cond_pos {α:Type} {b:Bool} (h:b=true) (x y:α):cond b x y=x:=by subst h;rfl
theorem cond_neg {α:Type} {b:Bool} (h:b=false) (x y:α):cond b x y=y:=by subst h;rfl
end Go.AM
namespace Go.AM
theorem Lm (a:List UInt8):Op.bytesLess a a=false:=by
 induction a with
 |nil=>rfl
 |cons x a ih=>simp [Op.bytesLess,ih]
theorem zW:∀(a b:List UInt8),Op.bytesLess a b=false→a≠b→Op.bytesLess b a=true:=by
 intro a
 induction a with
 |nil=>intro b h hne;cases b with
  |nil=>exact absurd rfl hne
  |cons y b=>simp [Op.bytesLess] at h
 |cons x a ih=>
  intro b h hne;cases b with
  |nil=>rfl
  |cons y b=>
   simp only [Op.bytesLess,mX,bA,Bool.and_eq_false_iff] at h;simp only [Op.bytesLess,eY,iZ,aF,fu];by_cases e:x=y
   ·subst e
    refine .inr ⟨rfl,ih b (h.2.resolve_left (by simp)) fun e=>hne (by rw [e])⟩
   ·refine .inl ?_
    have h1:=h.1;simp only [CU] at h1⊢;have:x.toNat≠y.toNat:=fun e2=>e (UInt8.toNat.inj e2)
    omega
theorem Ds:∀(a b c:List UInt8),Op.bytesLess a b=true→Op.bytesLess b c=true→Op.bytesLess a c=true:=by
 intro a
 induction a with
 |nil=>intro b c h1 h2;cases c with
  |nil=>simp [Op.bytesLess] at h2
  |cons z c=>rfl
 |cons x a ih=>
  intro b c h1 h2;cases b with
  |nil=>simp [Op.bytesLess] at h1
  |cons y b=>cases c with
   |nil=>simp [Op.bytesLess] at h2
   |cons z c=>
    simp only [Op.bytesLess,eY,iZ,aF,fu,CU] at h1 h2⊢;rcases h1 with h1|⟨rfl,h1⟩
    ·rcases h2 with h2|⟨rfl,h2⟩
     ·exact .inl (by omega)
     ·exact .inl h1
    ·rcases h2 with h2|⟨rfl,h2⟩
     ·exact .inl h2
     ·exact .inr ⟨rfl,ih b c h1 h2⟩
theorem td {a b:List UInt8} (h:Op.bytesLess a b=true):Op.bytesLess b a=false:=by
 cases e:Op.bytesLess b a with
 |false=>rfl
 |true=>have:=Ds _ _ _ h e;rw [Lm] at this;cases this
section
variable {α:Type} (lt:α→α→Bool)
def qV (x:α):List α→List α
 |[]=>[x]
 |y::l=>if lt x y=true then x::y::l else y::qV x l
def mH (l:List α):Prop:=l.Pairwise fun a b=>lt b a=false
theorem Tx {x:α} {p q:List α} (hp:∀y∈p,lt x y=false) (hq:∀y∈q,lt x y=true):qV lt x (p++q)=p++x::q:=by
 induction p with
 |nil=>cases q with
  |nil=>rfl
  |cons y q=>simp only [dU,qV];rw [au (hq y (nv ..))]
 |cons y p ih=>
  simp only [ff,qV];rw [ak (by simp [hp y (nv ..)]),ih fun z hz=>hp z (dW _ hz)]
theorem Qw {x y:α}:∀{l:List α},y∈qV lt x l↔y=x∨y∈l:=by
 intro l
 induction l with
 |nil=>simp [qV]
 |cons z l ih=>
  simp only [qV];split
  ·simp
  ·simp only [aD,ih];constructor
   ·rintro (h|h|h)<;>simp [h]
   ·rintro (h|h|h)<;>simp [h]
theorem Qv {x:α}:∀{l:List α},(qV lt x l).length=l.length+1:=by
 intro l
 induction l with
 |nil=>rfl
 |cons y l ih=>simp only [qV];split<;>simp [ih]
theorem Ab (asymm:∀a b,lt a b=true→lt b a=false) (up:∀x y z,lt x y=true→lt z y=false→lt x z=true) {x:α}:∀{l:List α},mH lt l→mH lt (qV lt x l):=by
 intro l
 induction l with
 |nil=>intro _;simp [qV,mH]
 |cons y l ih=>
  intro hs;simp only [mH,dX] at hs;simp only [qV];split
  ·rename_i h
   simp only [mH,dX,aD];refine ⟨fun z hz=> ?_,hs⟩;rcases hz with rfl|hz
   ·exact asymm _ _ h
   ·exact asymm _ _ (up _ _ _ h (hs.1 z hz))
  ·rename_i h
   simp only [mH,dX];refine ⟨fun z hz=> ?_,ih hs.2⟩;rcases (Qw lt).1 hz with rfl|hz
   ·simpa using h
   ·exact hs.1 z hz
def mz (l:List α):List α:=l.foldl (fun out x=>qV lt x out) []
end
end Go.AM
namespace Go.AM
abbrev Out:Type:=AV×List (Nat×Ob)
noncomputable def dec {T:Type} (E:T→Out) (c:Option Out):Option T:=
 match c with
 |some r=>open Classical in if h:∃x,E x=r then some h.choose else none
 |none=>none
def nP {T:Type} (E:T→Out) (c:Option Out) (t:Option T):Prop:=∀x,t=some x→c=some (E x)
theorem lS {T:Type} (E:T→Out) (c:Option Out):nP E c (dec E c):=by
 intro x hx;cases c with
 |none=>simp [dec] at hx
 |some r=>
  simp only [dec] at hx;split at hx
  ·rename_i h
   have:=h.choose_spec;simp only [aG] at hx;rw [←hx,this]
  ·simp at hx
theorem jM {T:Type} {E:T→Out} [gT E] {c:Option Out} {x:T} (h:c=some (E x)):dec E c=some x:=by
 subst h;have hx:∃y,E y=E x:=⟨x,rfl⟩
 simp only [dec,lF hx];rw [gT.inj _ _ hx.choose_spec]
section
variable {T:Type} {E:T→Out}
theorem Ma {c:Out} {x:T} (h:c=E x):nP E (some c) (some x):=by
 intro y hy;simp only [aG] at hy;subst hy;rw [h]
theorem HU {c c':Bool} {a b:Option Out} {a' b':Option T} (hc:c=c') (h1:nP E a a') (h2:nP E b b'):nP E (bif c then a else b) (bif c' then a' else b'):=by
 subst hc;cases c
 ·exact h2
 ·exact h1
theorem PF {R:Type} {p:Prop} [Decidable p] {a:Option R} {x:R} (h:check p a=some x):p∧a=some x:=by
 unfold check at h;split at h
 ·exact ⟨by assumption,h⟩
 ·simp at h
theorem SR {R:Type} {p:Prop} [Decidable p] {a:Option R} (h:p):check p a=a:=by
 unfold check;rw [au h]
theorem gR {p p':Prop} [Decidable p] [Decidable p'] {a:Option Out} {a':Option T} (hp:p'→p) (h:nP E a a'):nP E (check p a) (check p' a'):=by
 intro x hx;have:=PF hx;rw [SR (hp this.1)];exact h _ this.2
theorem Y1 {α β:Type} {enc:α→β} [gT enc] {L:List β} {l:List α} {i:Int} {k:α→Option Out} {k':α→Option T} (hl:L=l.map enc) (h:∀x,nP E (k x) (k' x)):
  nP E (bw L i fun c=>s9 enc c k) (bw l i k'):=by
 subst hl;intro x hx;unfold bw at hx⊢;split at hx
 ·rename_i h0
  rw [cZ];cases e:l[i.toNat]? with
  |none=>rw [e] at hx;simp at hx
  |some y=>
   rw [e] at hx;simp only [cS,au h0];rw [kq];exact h _ _ hx
 ·simp at hx
theorem Sh {α β:Type} {enc:α→β} [gT enc] {L:List β} {l:List α} {i:Nat} {k:α→Option Out} {k':α→Option T} (hl:L=l.map enc) (h:∀x,nP E (k x) (k' x)):
  nP E (gj L i fun c=>s9 enc c k) (gj l i k'):=by
 subst hl;intro x hx;unfold gj at hx⊢;rw [cZ];cases e:l[i]? with
 |none=>rw [e] at hx;simp at hx
 |some y=>
  rw [e] at hx;simp only [cS];rw [kq];exact h _ _ hx
theorem UZ {α β:Type} {enc:α→β} [gT enc] {L:List β} {l:List α} {i i':Int} {k:α→Option Out} {k':α→Option T} (hl:L=l.map enc) (hi:i=i') (h:∀x,nP E (k x) (k' x)):
  nP E (bw L i fun c=>s9 enc c k) (bw l i' k'):=by
 subst hi;exact Y1 hl h
theorem ac6 {α β:Type} {enc:α→β} [gT enc] {L:List β} {l:List α} {i i':Nat} {k:α→Option Out} {k':α→Option T} (hl:L=l.map enc) (hi:i=i') (h:∀x,nP E (k x) (k' x)):
  nP E (gj L i fun c=>s9 enc c k) (gj l i' k'):=by
 subst hi;exact Sh hl h
theorem I_getb {α:Type} {l:List α} {i:Int} {k:α→Option Out} {k':α→Option T} (h:∀x,nP E (k x) (k' x)):nP E (bw l i k) (bw l i k'):=by
 intro x hx;unfold bw at hx⊢;split at hx
 ·rename_i h0
  rw [au h0];cases e:l[i.toNat]? with
  |none=>rw [e] at hx;simp at hx
  |some y=>rw [e] at hx;exact h _ _ hx
 ·simp at hx
theorem bind_some {α β:Type} {f:Option α} {k:α→Option β} {x:β} (h:Option.bind f k=some x):∃y,f=some y∧k y=some x:=by
 cases f with
 |none=>simp at h
 |some y=>exact ⟨y,rfl,h⟩
theorem I_call {U:Type} {enc:U→AV} [gT enc] {E':U→Out} {c:Option Out} {f:Option U} {k:U→Option Out} {k':U→Option T} (hf:nP E' c f) (h:∀y,nP E (k y) (k' y)) (hE:∀y,E' y=(enc y,[]):=by intro _;rfl):
  nP E (wQ c fun r=>s9 enc r k) (Option.bind f k'):=by
 intro x hx;obtain ⟨y,h1,h2⟩:=bind_some hx;rw [hf _ h1,hE,Py,kq];exact h _ _ h2
def Pp {U V R:Type} (f:Option (U×V)) (k:U→V→Option R):Option R:=f.bind fun p=>k p.1 p.2
def Pq {U V W R:Type} (f:Option (U×V×W)) (k:U→V→W→Option R):Option R:=f.bind fun p=>k p.1 p.2.1 p.2.2
def Yo {U R:Type} (o:Option U) (k:U→Option R):Option R:=match o with
 |some x=>k x
 |none=>none
def ua {U0 U1 U2 U3 R:Type} (f:Option (U0×U1×U2×U3)) (k:U0→U1→U2→U3→Option R):Option R:=f.bind fun p=>k p.1 p.2.1 p.2.2.1 p.2.2.2
def FQ {U0 U1 U2 U3 U4 R:Type} (f:Option (U0×U1×U2×U3×U4)) (k:U0→U1→U2→U3→U4→Option R):Option R:=f.bind fun p=>k p.1 p.2.1 p.2.2.1 p.2.2.2.1 p.2.2.2.2
def Pr {U0 U1 U2 U3 U4 U5 R:Type} (f:Option (U0×U1×U2×U3×U4×U5)) (k:U0→U1→U2→U3→U4→U5→Option R):Option R:=f.bind fun p=>k p.1 p.2.1 p.2.2.1 p.2.2.2.1 p.2.2.2.2.1 p.2.2.2.2.2
theorem Ij {U V R:Type} (a:U) (b:V) (k:U→V→Option R):Pp (some (a,b)) k=k a b:=rfl
theorem Il {U V W R:Type} (a:U) (b:V) (c:W) (k:U→V→W→Option R):Pq (some (a,b,c)) k=k a b c:=rfl
end
section
variable {α R:Type}
theorem eo {l:List α} {i:Nat} {x:α} {xs:List α} (h:l.drop i=x::xs):i<l.length:=by
 have:=aI List.length h;simp only [List.length_drop,bg] at this;omega
theorem jU {l:List α} {i:Nat} (h:l.drop i=[]):l.length≤i:=by
 have:=aI List.length h;simp only [List.length_drop,eE] at this;omega
theorem b9 {l:List α} {i:Nat} {x:α} {xs:List α} (h:l.drop i=x::xs):l[i]? =some x:=by
 have:=aI (fun m=>m[0]?) h;simpa using this
theorem aN {l:List α} {i:Nat} {x:α} {xs:List α} (h:l.drop i=x::xs):l.drop (i+1)=xs:=by
 have:=aI (List.drop 1) h;simpa [ry,s6] using this
theorem bH {l:List α} {i:Nat} {x:α} {xs:List α} (h:l.drop i=x::xs):decide ((i:Int)<(l.length:Int))=true:=by
 have:=eo h;simp;omega
theorem bI {l:List α} {i:Nat} (h:l.drop i=[]):decide ((i:Int)<(l.length:Int))=false:=by
 have:=jU h;simp;omega
theorem aX {l:List α} {i:Nat} {x:α} {xs:List α} (h:l.drop i=x::xs) (k:α→Option R):bw l (i:Int) k=k x:=gW (b9 h) k
theorem Dp {l:List α} {i:Nat} {x:α} {xs:List α} (h:l.drop i=x::xs) (k:α→Option R):gj l (toNat (i:Int)) k=k x:=by
 rw [aR];exact iD (b9 h) k
theorem DA {l:List α} {i:Nat} {x:α} {xs:List α} (h:l.drop i=x::xs) (a:Option R):check (0≤(i:Int)∧toNat (i:Int)<l.length) a=a:=
 bp ⟨by omega,by rw [aR];exact eo h⟩ a
theorem bJ {l:List α} {i:Nat} {x:α} {xs:List α} (h:l.drop i=x::xs) (hl:l.length≤1073741824):wrap .i64 ((i:Int)+1)=((i+1:Nat):Int):=
 bG (by have:=eo h;omega)
theorem cz {n m c:Nat} (a:Option R) (h:n≤1073741824) (hm:m≤1073741824) (hc:c≤1024):check ((n+m) *c≤140737488355328∧n+m≤4611686018427387904) a=a:=by
 refine bp ⟨?_,by omega⟩ a;have h1:(n+m) *c≤(n+m) *1024:=FN _ hc;omega
theorem Dz {l:List α} {i:Nat} (h:i≤l.length) (a:Option R):check (0≤(i:Int)∧(i:Int)≤((l.length:Nat):Int)) a=a:=bp ⟨by omega,by omega⟩ a
theorem xF {n:Nat} (h:n≤1073741824):wrap .i64 (((n+1:Nat):Int)-1)=(n:Int):=by
 rw [kJ (by omega) (by omega)];omega
def gP (p:α→Bool):List α→Nat→Int
 |[],_=> -1
 |x::xs,i=>if p x then (i:Int) else gP p xs (i+1)
theorem aA {α β:Type} (a:α) (k:α→Option β):Option.bind (some a) k=k a:=rfl
theorem cn {l:List α} {i:Nat} (h:i<l.length) (k:α→Option R):bw l (i:Int) k=k l[i]:=gW (aH h) k
theorem MK {l:List α} {i:Nat} (h:i<l.length) (k:α→Option R):gj l i k=k l[i]:=iD (aH h) k
theorem SU {l:List α} {i:Nat} (h:i<l.length) (a:Option R):check (0≤(i:Int)∧toNat (i:Int)<l.length) a=a:=
 bp ⟨by omega,by rw [aR];exact h⟩ a
end
def EN {U:Type} (enc:U→AV):U→Out:=fun x=>(enc x,[])
instance {U:Type} {enc:U→AV} [gT enc]:gT (EN enc):=⟨fun a b h=>gT.inj _ _ (aI Prod.fst h)⟩
section
variable {T:Type} {E:T→Out}
theorem Is {x:T}:nP E (some (E x)) (some x):=Ma rfl
theorem Iz {c:Option Out}:nP E c (dec E c):=lS _ _
theorem Ic {c:Bool} {a b:Option Out} {a' b':Option T} (h1:nP E a a') (h2:nP E b b'):nP E (bif c then a else b) (bif c then a' else b'):=HU rfl h1 h2
theorem Ih {p:Prop} [Decidable p] {a:Option Out} {a':Option T} (h:nP E a a'):nP E (check p a) (check p a'):=gR id h
theorem Ig {α β:Type} (enc:α→β) [gT enc] {l:List α} {i:Int} {k:α→Option Out} {k':α→Option T} (h:∀x,nP E (k x) (k' x)):nP E (bw (l.map enc) i fun c=>s9 enc c k) (bw l i k'):=Y1 rfl h
theorem In {α β:Type} (enc:α→β) [gT enc] {l:List α} {i:Nat} {k:α→Option Out} {k':α→Option T} (h:∀x,nP E (k x) (k' x)):nP E (gj (l.map enc) i fun c=>s9 enc c k) (gj l i k'):=Sh rfl h
theorem Ik {U:Type} {enc:U→AV} [gT enc] {c:Option Out} {k:U→Option Out} {k':U→Option T} (h:∀y,nP E (k y) (k' y)):nP E (wQ c fun r=>s9 enc r k) (Option.bind (dec (EN enc) c) k'):=I_call (lS _ _) h
end
theorem qt {T:Type} {E:T→Out} [gT E] {raw body c:Option Out} {t:Option T} {r:T} (ht:t=some r) (hi:nP E raw t) (hk:body=raw) (h:∀{r:Out},body=some r→c=some r):dec E c=some r:=
 jM (h (hk.trans (hi _ ht)))
class GG (K:sk):Prop where
 is:∀a b:K.T,∃(inst:Decidable (a=b)),vR (K.enc a) (K.enc b)=some (decide (a=b))
section
variable {R:Type}
noncomputable def Ao {K V:Type} (l:List (K×V)) (key:K):Option Nat:=open Classical in l.findIdx? fun p=>decide (key=p.1)
noncomputable def Ed {K V:Type} (l:List (K×V)) (key:K) (v:V):List (K×V):=match Ao l key with
 |some i=>l.set i (key,v)
 |none=>l++[(key,v)]
noncomputable def getM {K V:Type} (l:List (K×V)) (key:K):Option V:=(Ao l key).bind fun i=>(l[i]?).map (·.2)
noncomputable def Ae {K V:Type} (l:List (K×V)) (key:K) (k:V→Option R) (z:Option R):Option R:=match getM l key with
 |some v=>k v
 |none=>z
def zz {α:Type} (x:α) (k:α→Option R):Option R:=k x
end
theorem LG {K:sk} [GG K] {V:Type} (key:K.T):∀l:List (K.T×V),qb (K.enc key) (l.map fun p=>K.enc p.1)=some (Ao l key):=by
 intro l
 induction l with
 |nil=>rfl
 |cons p l ih=>
  obtain ⟨inst,h⟩:=GG.is (K:=K) key p.1;rw [aP,qb,h];unfold Ao;rw [ug];by_cases e:key=p.1
  ·simp [e]
  ·have:decide (key=p.1)=false:=by simpa using e
   rw [this];simp only [ih,cS,e,xL,cW,ez];rfl
theorem Wn {K V:Type} {l:List (K×V)} {key:K} {i:Nat} (h:Ao l key=some i):∃hi:i<l.length,(l[i]'hi).1=key:=by
 unfold Ao at h;rw [xM] at h;obtain ⟨hi,h1,_⟩:=h;simp only [iZ] at h1;exact ⟨hi,h1.symm⟩
theorem yC {K V:sk} [gT K.enc] [gT V.enc]:∀{a b:List (K.T×V.T)},(dY K V a).1=(dY K V b).1→(dY K V a).2=(dY K V b).2→a=b:=by
 intro a
 induction a with
 |nil=>intro b h _;cases b with
  |nil=>rfl
  |cons x b=>simp [dY] at h
 |cons x a ih=>intro b h h2;cases b with
  |nil=>simp [dY] at h
  |cons y b=>
   simp only [dY,aP,dz] at h h2;obtain ⟨x1,x2⟩:=x;obtain ⟨y1,y2⟩:=y;have e1:x1=y1:=gT.inj _ _ h.1;have e2:x2=y2:=gT.inj _ _ h2.1;rw [e1,e2,ih h.2 h2.2]
instance {K V:sk} [gT K.enc] [gT V.enc]:gT (dY K V):=⟨fun a b h=>yC (aI Prod.fst h) (aI Prod.snd h)⟩
instance {U:Type} {enc:U→List AV} [gT enc]:gT (Tc enc):=⟨fun a b h=>by
 cases a<;>cases b<;>simp only [Tc,AV.ref.injEq,reduceCtorEq] at h
 ·rfl
 ·rw [gT.inj _ _ h]⟩
instance {K:sk} {E:FF} [gT K.enc] [gT E.enc]:gT (IJ K E):=⟨fun a b=>by
 induction a generalizing b with
 |nil=>intro h;cases b with
  |nil=>rfl
  |cons y b=>simp [IJ] at h
 |cons x a ih=>intro h;cases b with
  |nil=>simp [IJ] at h
  |cons y b=>
   simp only [IJ,aP,br,dz] at h;obtain ⟨⟨h1,h2⟩,h3,h4⟩:=h;obtain ⟨x1,x2⟩:=x;obtain ⟨y1,y2⟩:=y;have e2:x2=y2:=by
    cases x2<;>cases y2<;>simp only [cS,zK,aG,reduceCtorEq] at h3
    ·rfl
    ·rw [map_inj gT.inj _ _ h3]
   have e1:x1=y1:=gT.inj _ _ h1
   rw [e1,e2,ih b (by simp only [IJ];rw [h2,h4])]⟩
theorem abW {K V:sk} [GG K] (key:K.T) (l:List (K.T×V.T)):Ua (K.enc key) (dY K V l).1 (dY K V l).2=some ((getM l key).map V.enc):=by
 unfold Ua dY getM;rw [LG];cases h:Ao l key with
 |none=>rfl
 |some i=>
  obtain ⟨hi,_⟩:=Wn h;simp [aH hi]
theorem RK {K V:sk} {l:List (K.T×V.T)} {key:K.T} {v:V.T} {i:Nat} (h:Ao l key=some i):dY K V (l.set i (key,v))=((dY K V l).1,(dY K V l).2.set i (V.enc v)):=by
 obtain ⟨hi,e⟩:=Wn h;unfold dY;rw [br];constructor
 ·rw [jB]
  apply oS
  ·simp
  ·intro j h1 h2
   rw [List.getElem_set];split
   ·rename_i hj;subst hj;simp [e]
   ·rfl
 ·rw [jB]
theorem abZ {K V:sk} [GG K] (key:K.T) (v:V.T) (l:List (K.T×V.T)):Cr (K.enc key) (V.enc v) (dY K V l).1 (dY K V l).2=some (dY K V (Ed l key v)):=by
 have hf:qb (K.enc key) (dY K V l).1=some (Ao l key):=LG key l;unfold Cr Ed;rw [hf];cases h:Ao l key with
 |none=>simp [dY]
 |some i=>simp only [RK h]
section
variable {T:Type} {E:T→Out}
theorem I_look {K V:sk} [GG K] [gT V.enc] {l:List (K.T×V.T)} {key:K.T} {k:V.T→Option Out} {k':V.T→Option T} {z:Option Out} {z':Option T} (h:∀y,nP E (k y) (k' y)) (hz:nP E z z'):
  nP E (LC (Ua (K.enc key) (dY K V l).1 (dY K V l).2) (fun v=>s9 V.enc v k) z) (Ae l key k' z'):=by
 intro x hx;unfold Ae at hx;unfold LC;rw [abW];cases e:getM l key with
 |none=>rw [e] at hx;exact hz _ hx
 |some v=>rw [e] at hx;simp only [cS];rw [kq];exact h _ _ hx
theorem I_put {K V:sk} [GG K] [gT K.enc] [gT V.enc] {l:List (K.T×V.T)} {key:K.T} {a:AV} {v:V.T} {k:List (K.T×V.T)→Option Out} {k':List (K.T×V.T)→Option T} (ha:a=V.enc v) (h:∀m,nP E (k m) (k' m)):
  nP E (Uq (Cr (K.enc key) a (dY K V l).1 (dY K V l).2) fun p=>s9 (dY K V) p k) (zz (Ed l key v) k'):=by
 subst ha;intro x hx;unfold Uq;rw [abZ];simp only [kq];exact h _ _ hx
def ni {A:Type} (enc:A→List AV) (k:Nat):A→List AV:=fun x=>(enc x).set k .hole
abbrev qp {V:Type} (enc:V→List AV):List (Option (List V))→List (Option (List (List AV))):=List.map (Option.map (List.map enc))
instance {V:Type} (enc:V→List AV) [gT enc]:gT (qp enc):=⟨fun a b h=>by
 refine map_inj (fun x y e=> ?_) _ _ h;cases x<;>cases y<;>simp at e⊢
 exact map_inj gT.inj _ _ e⟩
instance {V:Type} (enc:V→List AV) [gT enc]:gT (List.map (Option.map (List.map enc))):=inferInstanceAs (gT (qp enc))
def Ul {R V:Type} (ys:List (Option (List V))) (i:Nat) (k:List V→List (Option (List V))→Option R):Option R:=match ys[i]? with
 |some (some zs)=>k zs (ys.set i none)
 |_=>none
def nrT {R V:Type} (ys:List (Option (List V))) (i:Nat) (k:List V→Option R):Option R:=match ys[i]? with
 |some (some zs)=>k zs
 |_=>none
def Bt {A' A V:Type} (r6:A'→List V→A):List A'→List (Option (List V))→Option (List A)
 |[],[]=>some []
 |x::xs,some y::ys=>(Bt r6 xs ys).map (r6 x y:: ·)
 |_,_=>none
def W5 {R A' A V:Type} (r6:A'→List V→A) (xs:List A') (ys:List (Option (List V))) (k:List A→Option R):Option R:=match Bt r6 xs ys with
 |some l=>k l
 |none=>none
theorem I_nr {V:Type} {enc:V→List AV} [gT enc] {Y:List (Option (List V))} {i:Nat} {k:List V→Option Out} {k':List V→Option T} (h:∀zs,nP E (k zs) (k' zs)):
  nP E (Ri (qp enc Y) i fun c=>s9 (List.map enc) c k) (nrT Y i k'):=by
 intro x hx;unfold nrT at hx;split at hx
 ·rename_i zs hz
  have e1:(qp enc Y)[i]? =some (some (zs.map enc)):=by simp [hz]
  unfold Ri;rw [e1];simp only;rw [kq];exact h _ _ hx
 ·cases hx
theorem I_out {V:Type} {enc:V→List AV} [gT enc] {Y:List (Option (List V))} {i:Nat} {k:List V→List (Option (List V))→Option Out} {k':List V→List (Option (List V))→Option T} (h:∀zs y,nP E (k zs y) (k' zs y)):
  nP E (Ri (qp enc Y) i fun c=>s9 (List.map enc) c fun zs=>s9 (qp enc) ((qp enc Y).set i none) fun y=>k zs y) (Ul Y i k'):=by
 intro x hx;unfold Ul at hx;split at hx
 ·rename_i zs hz
  have e1:(qp enc Y)[i]? =some (some (zs.map enc)):=by simp [hz]
  have e2:(qp enc Y).set i none=qp enc (Y.set i none):=by rw [qp,jB];rfl
  unfold Ri;rw [e1];simp only;rw [kq,e2,kq];exact h _ _ _ hx
 ·cases hx
theorem Si {V:Type} {enc:V→List AV} [gT enc] {Y:List (Option (List V))} {i:Nat} {L:List (List AV)} {zs:List V} {k:List (Option (List V))→Option Out} {k':List (Option (List V))→Option T} (hl:L=zs.map enc) (h:∀y,nP E (k y) (k' y)):
  nP E (check (i<(qp enc Y).length) (s9 (qp enc) ((qp enc Y).set i (some L)) k)) (check (i<Y.length) (zz (Y.set i (some zs)) k')):=by
 subst hl;refine gR (by simp) ?_;have e2:(qp enc Y).set i (some (zs.map enc))=qp enc (Y.set i (some zs)):=by rw [qp,jB];rfl
 rw [e2,kq];exact h _
theorem Lj {A' A V:Type} {Xx:A'→List AV} {enc:A→List AV} {Tb:V→List AV} {r6:A'→List V→A} {k s:Nat} (hu:∀x z,(Xx x).set k (.eH s (z.map Tb))=enc (r6 x z)):∀{xs:List A'} {ys:List (Option (List V))} {l:List A},Bt r6 xs ys=some l→
  ∃c,pO (qp Tb ys)=some c∧wL k s (xs.map Xx) c=l.map enc
 |[],[],l,h=>by simp only [Bt,aG] at h;subst h;exact ⟨[],rfl,rfl⟩
 |x::xs,some y::ys,l,h=>by
  simp only [Bt,bS] at h;obtain ⟨l',hl',rfl⟩:=h;obtain ⟨c,hc,he⟩:=Lj hu hl';refine ⟨y.map Tb::c,?_,?_⟩
  ·simp only [qp,aP,cS,pO] at hc⊢
   rw [hc];rfl
  ·simp only [aP,wL,hu,he]
 |[],_::_,l,h=>by simp [Bt] at h
 |_::_,[],l,h=>by simp [Bt] at h
 |_::_,none::_,l,h=>by simp [Bt] at h
theorem I_allN {A' A V:Type} {Xx:A'→List AV} {enc:A→List AV} [gT enc] {Tb:V→List AV} {r6:A'→List V→A} {q s:Nat} {xs:List A'} {ys:List (Option (List V))} {k:List A→Option Out} {k':List A→Option T} (h:∀m,nP E (k m) (k' m))
  (hu:∀x z,(Xx x).set q (.eH s (z.map Tb))=enc (r6 x z):=by intro _ _;rfl):
  nP E (Su (pO (qp Tb ys)) fun c=>s9 (List.map enc) (wL q s (xs.map Xx) c) k) (W5 r6 xs ys k'):=by
 intro x hx;unfold W5 at hx;split at hx
 ·rename_i m hm
  obtain ⟨c,hc,he⟩:=Lj hu hm;unfold Su;rw [hc];simp only;rw [he,kq];exact h _ _ hx
 ·cases hx
theorem Sg {V:Type} {enc:V→List AV} [gT enc] {Y Z:List (Option (List V))} {k:List (Option (List V))→Option Out} {k':List (Option (List V))→Option T} (h:∀y,nP E (k y) (k' y)):
  nP E (s9 (qp enc) (qp enc Y++qp enc Z) k) (zz (Y++Z) k'):=by
 have e:qp enc Y++qp enc Z=qp enc (Y++Z):=by rw [qp,bT]
 rw [e,kq];exact h _
theorem L9 {U:Type} {E':U→Out} {c:Option Out} {f:Option U} {kk:AV→List (Nat×Ob)→Option Out} {k':U→Option T} (hf:nP E' c f) (h:∀y,nP E (kk (E' y).1 (E' y).2) (k' y)):nP E (vM c kk) (Option.bind f k'):=by
 intro x hx;obtain ⟨y,h1,h2⟩:=bind_some hx;rw [hf _ h1];unfold vM;exact h _ _ h2
theorem Y0 {U V:Type} {E':U×V→Out} {c:Option Out} {f:Option (U×V)} {kk:AV→List (Nat×Ob)→Option Out} {k':U→V→Option T} (hf:nP E' c f) (h:∀y v,nP E (kk (E' (y,v)).1 (E' (y,v)).2) (k' y v)):nP E (vM c kk) (Pp f k'):=
 L9 hf fun p=>h p.1 p.2
theorem ac5 {U:Type} {enc:U→List AV} [gT enc] {o:Option U} {k:U→Option Out} {k':U→Option T} (h:∀x,nP E (k x) (k' x)):nP E (Ym (Tc enc o) fun cs=>s9 enc cs k) (Yo o k'):=by
 intro x hx;cases o with
 |none=>simp [Yo] at hx
 |some y=>
  unfold Ym Tc;simp only;rw [kq];exact h _ _ hx
theorem Y2 {nm:Nat} {o:Ob} {l:List (Nat×Ob)} {k:Ob→List (Nat×Ob)→Option Out} {t:Option T} (h:nP E (k o l) t):nP E (oy nm ((nm,o)::l) k) t:=by
 have:oy nm ((nm,o)::l) k=k o l:=by
  unfold oy;simp only [fS,ai]
 rw [this];exact h
theorem I_asLp {xs:List AV} {k:List AV→Option Out} {t:Option T} (h:nP E (k xs) t):nP E (Zg (.lp xs) k) t:=by
 unfold Zg;exact h
theorem I_nil {k:Option Out} {t:Option T} (h:nP E k t):nP E (Np [] k) t:=by
 unfold Np;exact h
theorem I_res {U:Type} {enc:U→AV} [gT enc] {y:U} {k:U→Option Out} {t:Option T} (h:nP E (k y) t):nP E (s9 enc (enc y) k) t:=by rw [kq];exact h
end
end Go.AM
set_option synthInstance.maxSize 100000
set_option synthInstance.maxHeartbeats 1000000
namespace Go.AM
universe u v
class Rw {α:Sort u} (a:α) (b:outParam α):Prop where
 e:a=b
class HR (α:Type) (enc:outParam (α→List AV)):Prop
class En {α:Type} (l:List α) (enc:outParam (α→List AV)):Prop
def tl {α:Type} (enc:α→List AV) (x:α):α:=x
def tg {α:Type} (enc:α→AV) (x:α):α:=x
def tw {α:Type} (enc:α→List AV) (x:List α):List α:=x
class YY (α:Type) (f:outParam (α→AV)):Prop
class Im {T:Type} (E:T→Out) (t:Option T) (c:outParam (Option Out)):Prop where
 p:nP E c t
section
instance (priority:=low) iSelf {α:Sort u} (a:α):Rw a a:=⟨rfl⟩
instance (priority:=low) iEn {α:Type} {enc:α→List AV} [HR α enc] (l:List α):En l enc:=⟨⟩
instance iEnE {β:Type} {x:List β} {s:Nat} {f:β→List AV}:En (tl (iB s f) x) f:=⟨⟩
section
variable {α:Type} {enc:α→List AV} {l m:List α}
instance [En l enc]:En (l++m) enc:=⟨⟩
instance [En l enc] {i:Nat} {x:α}:En (l.set i x) enc:=⟨⟩
instance [En l enc] {i:Nat}:En (l.take i) enc:=⟨⟩
instance [En l enc] {i:Nat}:En (l.drop i) enc:=⟨⟩
end
instance:HR Int (bX .i64):=⟨⟩
instance:HR (List UInt8) jG:=⟨⟩
instance:HR Bool qO:=⟨⟩
instance:HR (List Int) (iB 1 (bX .i64)):=⟨⟩
instance:HR (List (List UInt8)) (iB 1 jG):=⟨⟩
variable {α:Type u} {β:Type v}
instance iCons {a a':α} {l l':List α} [Rw a a'] [Rw l l']:Rw (a::l) (a'::l'):=⟨by cases Rw.e (a:=a) (b:=a');cases Rw.e (a:=l) (b:=l');rfl⟩
instance iPair {a a':α} {b b':β} [Rw a a'] [Rw b b']:Rw (a,b) (a',b'):=⟨by cases Rw.e (a:=a) (b:=a');cases Rw.e (a:=b) (b:=b');rfl⟩
instance iSet {f:α→β} {l:List α} {L:List β} {i i':Nat} {x:α} {y:β} [Rw (l.map f) L] [Rw i i'] [Rw (f x) y]:Rw ((l.set i x).map f) (L.set i' y):=⟨by cases Rw.e (a:=(l.map f)) (b:=L);cases Rw.e (a:=i) (b:=i');cases Rw.e (a:=(f x)) (b:=y);exact jB ..⟩
instance iApp {f:α→β} {l m:List α} {L M:List β} [Rw (l.map f) L] [Rw (m.map f) M]:Rw ((l++m).map f) (L++M):=⟨by cases Rw.e (a:=(l.map f)) (b:=L);cases Rw.e (a:=(m.map f)) (b:=M);exact bT ..⟩
instance iMc {f:α→β} {x:α} {y:β} {l:List α} {L:List β} [Rw (f x) y] [Rw (l.map f) L]:Rw ((x::l).map f) (y::L):=⟨by cases Rw.e (a:=(f x)) (b:=y);cases Rw.e (a:=(l.map f)) (b:=L);rfl⟩
instance iMn {f:α→β}:Rw (([]:List α).map f) []:=⟨rfl⟩
instance iTake {f:α→β} {l:List α} {L:List β} {n n':Nat} [Rw (l.map f) L] [Rw n n']:Rw ((l.take n).map f) (L.take n'):=⟨by cases Rw.e (a:=(l.map f)) (b:=L);cases Rw.e (a:=n) (b:=n');exact List.map_take ..⟩
instance iDrop {f:α→β} {l:List α} {L:List β} {n n':Nat} [Rw (l.map f) L] [Rw n n']:Rw ((l.drop n).map f) (L.drop n'):=⟨by cases Rw.e (a:=(l.map f)) (b:=L);cases Rw.e (a:=n) (b:=n');exact lH ..⟩
instance iRep {f:α→β} {n n':Nat} {x:α} {y:β} [Rw n n'] [Rw (f x) y]:Rw ((List.replicate n x).map f) (List.replicate n' y):=⟨by cases Rw.e (a:=n) (b:=n');cases Rw.e (a:=(f x)) (b:=y);exact rz ..⟩
instance iELst {U:Type} {s:Nat} {f:U→List AV} {l:List U} {L:List (List AV)} [Rw (l.map f) L]:Rw (iB s f l) [.eH s L]:=⟨by cases Rw.e (a:=(l.map f)) (b:=L);rfl⟩
instance iEInt {k:IntKind} {x y:Int} [Rw x y]:Rw (bX k x) [.int k y]:=⟨by cases Rw.e (a:=x) (b:=y);rfl⟩
instance {x y:AV} [Rw x y]:Rw (SV.pv x) (.pv y):=⟨by cases Rw.e (a:=x) (b:=y);rfl⟩
instance {k:IntKind} {x y:Int} [Rw x y]:Rw (AV.int k x) (.int k y):=⟨by cases Rw.e (a:=x) (b:=y);rfl⟩
instance {s:Nat} {x y:List (List AV)} [Rw x y]:Rw (AV.eH s x) (.eH s y):=⟨by cases Rw.e (a:=x) (b:=y);rfl⟩
instance {x y:Nat} [Rw x y]:Rw (AV.self x) (.self y):=⟨by cases Rw.e (a:=x) (b:=y);rfl⟩
instance {x y:List AV} [Rw x y]:Rw (AV.agg x) (.agg y):=⟨by cases Rw.e (a:=x) (b:=y);rfl⟩
instance {x y:List AV} [Rw x y]:Rw (AV.mu x) (.mu y):=⟨by cases Rw.e (a:=x) (b:=y);rfl⟩
instance {x y:Bool} [Rw x y]:Rw (AV.bool x) (.bool y):=⟨by cases Rw.e (a:=x) (b:=y);rfl⟩
instance {x y:List UInt8} [Rw x y]:Rw (AV.str x) (.str y):=⟨by cases Rw.e (a:=x) (b:=y);rfl⟩
instance {i s a b c d:Nat} [Rw a c] [Rw b d]:Rw (SV.sub i s a b) (.sub i s c d):=⟨by cases Rw.e (a:=a) (b:=c);cases Rw.e (a:=b) (b:=d);rfl⟩
instance {e s:Nat} {x y:List (List AV)} [Rw x y]:Rw (Ob.row e s x) (.row e s y):=⟨by cases Rw.e (a:=x) (b:=y);rfl⟩
instance {e:Nat} {x y:List SV} [Rw x y]:Rw (Ob.box e x) (.box e y):=⟨by cases Rw.e (a:=x) (b:=y);rfl⟩
instance {U:Type} {Q:U→AV} {x:U} {a:AV} [Rw (Q x) a]:Rw (EN Q x) (a,[]):=⟨by cases Rw.e (a:=Q x) (b:=a);rfl⟩
instance iLen {U:Type} {l:List U} {enc:U→List AV} {L:List (List AV)} [En l enc] [Rw (l.map enc) L]:Rw l.length L.length:=⟨by cases Rw.e (a:=(l.map enc)) (b:=L);exact (aW ..).symm⟩
instance {x y:Nat} [Rw x y]:Rw (x:Int) (y:Int):=⟨by cases Rw.e (a:=x) (b:=y);rfl⟩
instance {x y:Int} [Rw x y]:Rw (toNat x) (toNat y):=⟨by cases Rw.e (a:=x) (b:=y);rfl⟩
instance {k:IntKind} {x y:Int} [Rw x y]:Rw (wrap k x) (wrap k y):=⟨by cases Rw.e (a:=x) (b:=y);rfl⟩
instance [HAdd α α α] {a b a' b':α} [Rw a a'] [Rw b b']:Rw (a+b) (a'+b'):=⟨by cases Rw.e (a:=a) (b:=a');cases Rw.e (a:=b) (b:=b');rfl⟩
instance [HSub α α α] {a b a' b':α} [Rw a a'] [Rw b b']:Rw (a-b) (a'-b'):=⟨by cases Rw.e (a:=a) (b:=a');cases Rw.e (a:=b) (b:=b');rfl⟩
instance [HMul α α α] {a b a' b':α} [Rw a a'] [Rw b b']:Rw (a *b) (a' *b'):=⟨by cases Rw.e (a:=a) (b:=a');cases Rw.e (a:=b) (b:=b');rfl⟩
instance [LT α] {a b a' b':α} [Rw a a'] [Rw b b']:Rw (a<b) (a'<b'):=⟨by cases Rw.e (a:=a) (b:=a');cases Rw.e (a:=b) (b:=b');rfl⟩
instance [LE α] {a b a' b':α} [Rw a a'] [Rw b b']:Rw (a≤b) (a'≤b'):=⟨by cases Rw.e (a:=a) (b:=a');cases Rw.e (a:=b) (b:=b');rfl⟩
instance [LT α] {a b a' b':α} [Rw a a'] [Rw b b']:Rw (a>b) (a'>b'):=⟨by cases Rw.e (a:=a) (b:=a');cases Rw.e (a:=b) (b:=b');rfl⟩
instance [LE α] {a b a' b':α} [Rw a a'] [Rw b b']:Rw (a≥b) (a'≥b'):=⟨by cases Rw.e (a:=a) (b:=a');cases Rw.e (a:=b) (b:=b');rfl⟩
instance {a b a' b':α} [Rw a a'] [Rw b b']:Rw (a=b) (a'=b'):=⟨by cases Rw.e (a:=a) (b:=a');cases Rw.e (a:=b) (b:=b');rfl⟩
instance {p q p' q':Prop} [Rw p p'] [Rw q q']:Rw (p∧q) (p'∧q'):=⟨by cases Rw.e (a:=p) (b:=p');cases Rw.e (a:=q) (b:=q');rfl⟩
instance {p p':Prop} [Rw p p'] [i:Decidable p] [j:Decidable p']:Rw (decide p) (decide p'):=⟨by
 cases Rw.e (a:=p) (b:=p');congr⟩
instance [BEq α] {a b a' b':α} [Rw a a'] [Rw b b']:Rw (a==b) (a'==b'):=⟨by cases Rw.e (a:=a) (b:=a');cases Rw.e (a:=b) (b:=b');rfl⟩
instance [BEq α] {a b a' b':α} [Rw a a'] [Rw b b']:Rw (a !=b) (a' !=b'):=⟨by cases Rw.e (a:=a) (b:=a');cases Rw.e (a:=b) (b:=b');rfl⟩
instance {a a':Bool} [Rw a a']:Rw (!a) (!a'):=⟨by cases Rw.e (a:=a) (b:=a');rfl⟩
instance {a b a' b':Bool} [Rw a a'] [Rw b b']:Rw (a&&b) (a'&&b'):=⟨by cases Rw.e (a:=a) (b:=a');cases Rw.e (a:=b) (b:=b');rfl⟩
instance iRun {P:Program} {H:Nat→Hint} {fk:dQ} {f:Nat} {a a':List SV} {l l':List (Nat×Ob)} [Rw a a'] [Rw l l']:Rw (run P H fk f a l) (run P H fk f a' l'):=⟨by cases Rw.e (a:=a) (b:=a');cases Rw.e (a:=l) (b:=l');rfl⟩
instance iHead {P:Program} {C:mG} {H:Nat→Hint} {fk:dQ} {f key:Nat} {nm:List Nat} {a a':List (Nat×SV)} {l l':List (Nat×Ob)} [Rw a a'] [Rw l l']:Rw (qq P C H fk f key nm a l) (qq P C H fk f key nm a' l'):=⟨by cases Rw.e (a:=a) (b:=a');cases Rw.e (a:=l) (b:=l');rfl⟩
end
section
variable {T:Type} {E:T→Out}
instance mSome {x:T} {y:Out} [Rw (E x) y]:Im E (some x) (some y):=⟨Ma (Rw.e (a:=E x)).symm⟩
instance mDeref {U:Type} {enc:U→List AV} [HR U enc] [gT enc] {o:Option U} {k:U→Option Out} {k':U→Option T} [∀x,Im E (k' x) (k x)]:Im E (Yo o k') (Ym (Tc enc o) fun cs=>s9 enc cs k):=⟨ac5 fun x=>Im.p (t:=k' x)⟩
instance mDec {c c':Option Out} [Rw c c']:Im E (dec E c) c':=⟨by rw [←Rw.e (a:=c) (b:=c')];exact Iz⟩
instance mCond {c c':Bool} {a b:Option Out} {a' b':Option T} [Rw c' c] [Im E a' a] [Im E b' b]:Im E (bif c' then a' else b') (bif c then a else b):=⟨HU (Rw.e (a:=c')).symm (Im.p (t:=a')) (Im.p (t:=b'))⟩
instance mCheck {p p':Prop} [Decidable p'] [Rw p' p] [Decidable p] {a:Option Out} {a':Option T} [Im E a' a]:Im E (check p' a') (check p a):=⟨gR (fun h=>by rw [←Rw.e (a:=p') (b:=p)];exact h) (Im.p (t:=a'))⟩
instance mGetK {α:Type} {enc:α→List AV} {l:List α} [En l enc] [gT enc] {L:List (List AV)} [Rw (l.map enc) L] {i i':Int} [Rw i' i] {k:α→Option Out} {k':α→Option T} [h:∀x,Im E (k' (tl enc x)) (k x)]:Im E (bw l i' k') (bw L i fun c=>s9 enc c k):=⟨UZ (Rw.e (a:=l.map enc)).symm (Rw.e (a:=i')).symm fun x=>(h x).p⟩
instance mGetN {α:Type} {enc:α→List AV} {l:List α} [En l enc] [gT enc] {L:List (List AV)} [Rw (l.map enc) L] {i i':Nat} [Rw i' i] {k:α→Option Out} {k':α→Option T} [h:∀x,Im E (k' (tl enc x)) (k x)]:Im E (gj l i' k') (gj L i fun c=>s9 enc c k):=⟨ac6 (Rw.e (a:=l.map enc)).symm (Rw.e (a:=i')).symm fun x=>(h x).p⟩
instance mGetb {l:List UInt8} {i i':Int} [Rw i' i] {k:UInt8→Option Out} {k':UInt8→Option T} [∀x,Im E (k' x) (k x)]:Im E (bw l i' k') (bw l i k):=⟨by rw [Rw.e (a:=i') (b:=i)];exact I_getb fun x=>Im.p (t:=k' x)⟩
instance mCall {U:Type} {enc:U→AV} [gT enc] {c c':Option Out} [Rw c' c] {k:U→Option Out} {k':U→Option T} [h:∀y,Im E (k' (tg enc y)) (k y)]:Im E (Option.bind (dec (EN enc) c') k') (wQ c fun r=>s9 enc r k):=⟨by rw [Rw.e (a:=c') (b:=c)];exact Ik fun y=>(h y).p⟩
end
section
variable {α β:Type}
def pA (enc:α→List AV):α→AV:=fun x=> .agg (enc x)
def pL (n:Nat) (enc:α→List AV):List α→AV:=fun x=> .eH n (x.map enc)
def pP (f:α→AV) (g:β→AV):α×β→AV:=fun x=> .mu [f x.1,g x.2]
def pW (e n:Nat) (enc:α→List AV):List α→AV:=fun x=> .mu [.mu [.self e, .eH n (x.map enc)]]
def pM (f:α→AV) (g:β→AV):List (α×β)→AV:=fun x=> .mp (dY ⟨α,f⟩ ⟨β,g⟩ x).1 (dY ⟨α,f⟩ ⟨β,g⟩ x).2
def pF (n:Nat) (enc:α→List AV):List α→AV:=fun x=> .fn n [.ref [.eH 2 (x.map enc)]]
def pU:Unit→AV:=fun _=> .mu []
variable {f:α→AV} {g:β→AV} {enc:α→List AV} {n e:Nat}
instance {k:IntKind}:gT (AV.int k):=⟨fun a b h=>by injection h⟩
instance:gT AV.bool:=⟨fun a b h=>by injection h⟩
instance:gT AV.str:=⟨fun a b h=>by injection h⟩
instance:gT AV.self:=⟨fun a b h=>by injection h⟩
instance:gT pU:=⟨fun _ _ _=>rfl⟩
instance [gT enc]:gT (pA enc):=⟨fun a b h=>by injection h with h;exact gT.inj _ _ h⟩
instance [gT enc]:gT (pL n enc):=⟨fun a b h=>by injection h with _ h;exact map_inj gT.inj _ _ h⟩
instance [gT f] [gT g]:gT (pP f g):=⟨fun a b h=>by
 simp only [pP,AV.mu.injEq,dz,fO] at h
 exact Prod.ext (gT.inj _ _ h.1) (gT.inj _ _ h.2)⟩
instance [gT enc]:gT (pW e n enc):=⟨fun a b h=>by
 simp only [pW,AV.mu.injEq,dz,AV.eH.injEq,ig,fO] at h
 exact map_inj gT.inj _ _ h⟩
instance [gT enc]:gT (pF n enc):=⟨fun a b h=>by
 simp only [pF,AV.fn.injEq,AV.ref.injEq,dz,AV.eH.injEq,ig,fO] at h
 exact map_inj gT.inj _ _ h⟩
instance [i:gT f] [j:gT g]:gT (pM f g):=⟨fun a b h=>by injection h with h1 h2;exact @yC ⟨α,f⟩ ⟨β,g⟩ i j _ _ h1 h2⟩
instance {l:List α} {L:List (List AV)} [Rw (l.map enc) L]:Rw (pL n enc l) (.eH n L):=⟨by cases Rw.e (a:=l.map enc) (b:=L);rfl⟩
instance {x:α} {y:β} {a b:AV} [Rw (f x) a] [Rw (g y) b]:Rw (pP f g (x,y)) (.mu [a,b]):=⟨by cases Rw.e (a:=f x) (b:=a);cases Rw.e (a:=g y) (b:=b);rfl⟩
instance {x:List α}:En (tg (pL n enc) x) enc:=⟨⟩
instance {x:List α×β}:En (tg (pP (pL n enc) g) x).1 enc:=⟨⟩
instance {x:β×List α}:En (tg (pP g (pL n enc)) x).2 enc:=⟨⟩
end
structure De0 where
 e:List (Nat×Ob)
 r:List (Nat×Ob)→Option Out→Option Out
 ok:∀k,r e k=k
structure De (T:Type) where
 e:T→List (Nat×Ob)
 r:List (Nat×Ob)→(T→Option Out)→Option Out
 ok:∀x k,r (e x) k=k x
structure It (α:Type) where
 e:α→Ob
 r:Ob→(α→Option Out)→Option Out
 ok:∀x k,r (e x) k=k x
noncomputable section
theorem unc (nm:Nat) (o:Ob) (l:List (Nat×Ob)) (k:Ob→List (Nat×Ob)→Option Out):oy nm ((nm,o)::l) k=k o l:=by
 unfold oy;simp
theorem smk (o:Ob) (k:Option Out):Ej o o k=k:=by unfold Ej;simp
def dZ:De0:=⟨[],Np,fun k=>by unfold Np;rfl⟩
def dS (nm:Nat) (ob:Ob) (z:De0):De0:=⟨(nm,ob)::z.e,fun l k=>oy nm l fun o l=>Ej o ob (z.r l k),fun k=>by rw [unc,smk,z.ok]⟩
def iR {α:Type} (e sz:Nat) (enc:α→List AV) [gT enc]:It (List α):=⟨fun xs=> .row e sz (xs.map enc),fun o k=>Po e sz o fun c=>s9 (List.map enc) c k,fun x k=>by
 unfold Po;simp [kq]⟩
def iM (kt et:Nat) (K V:sk) [gT K.enc] [gT V.enc]:It (List (K.T×V.T)):=⟨fun l=> .mp kt et (dY K V l).1 (dY K V l).2,fun o k=>Pn kt et o fun c=>s9 (dY K V) c k,fun x k=>by
 unfold Pn;simp [kq]⟩
section
variable {α T:Type}
def dT (nm:Nat) (ob:Ob) (d:De T):De T:=⟨fun x=>(nm,ob)::d.e x,fun l k=>oy nm l fun o l=>Ej o ob (d.r l k),fun x k=>by rw [unc,smk,d.ok]⟩
def dI (nm:Nat) (i:It α) (d:De T):De (α×T):=⟨fun x=>(nm,i.e x.1)::d.e x.2,fun l k=>oy nm l fun o l=>i.r o fun x=>d.r l fun y=>k (x,y),fun x k=>by rw [unc,i.ok,d.ok]⟩
def dJ (nm:Nat) (i:It α) (z:De0):De α:=⟨fun x=>(nm,i.e x)::z.e,fun l k=>oy nm l fun o l=>i.r o fun x=>z.r l (k x),fun x k=>by rw [unc,i.ok,z.ok]⟩
variable {U:Type}
def eD (Q:U→AV) (d:De T):U×T→Out:=fun x=>(Q x.1,d.e x.2)
def eZ (Q:U→AV) (z:De0):U→Out:=fun x=>(Q x,z.e)
def eR {V:Type} (Q:U→AV) (nm e sz:Nat) (enc:V→List AV):U×List V→Out:=fun x=>(Q x.1,[(nm, .row e sz (x.2.map enc))])
instance {V:Type} {Q:U→AV} {nm e sz:Nat} {enc:V→List AV} {x:U} {l:List V} {a:AV} {L:List (List AV)} [Rw (Q x) a] [Rw (l.map enc) L]:Rw (eR Q nm e sz enc (x,l)) (a,[(nm, .row e sz L)]):=⟨by cases Rw.e (a:=Q x) (b:=a);cases Rw.e (a:=l.map enc) (b:=L);rfl⟩
class RwI {V:Type} (i:It V) (x:V) (o:outParam Ob):Prop where
 e:i.e x=o
class RwD {V:Type} (d:De V) (x:V) (l:outParam (List (Nat×Ob))):Prop where
 e:d.e x=l
instance (priority:=low) {i:It α} {x:α}:RwI i x (i.e x):=⟨rfl⟩
instance {V:Type} {e sz:Nat} {enc:V→List AV} [gT enc] {l:List V} {L:List (List AV)} [j:Rw (l.map enc) L]:RwI (iR e sz enc) l (.row e sz L):=⟨by rw [←j.e];rfl⟩
instance {nm:Nat} {ob:Ob} {d:De T} {w:T} {l:List (Nat×Ob)} [j:RwD d w l]:RwD (dT nm ob d) w ((nm,ob)::l):=⟨by rw [←j.e];rfl⟩
instance {nm:Nat} {i:It α} {d:De T} {x:α} {w:T} {o:Ob} {l:List (Nat×Ob)} [k:RwI i x o] [j:RwD d w l]:RwD (dI nm i d) (x,w) ((nm,o)::l):=⟨by rw [←j.e,←k.e];rfl⟩
instance {nm:Nat} {i:It α} {z:De0} {x:α} {o:Ob} [k:RwI i x o]:RwD (dJ nm i z) x ((nm,o)::z.e):=⟨by rw [←k.e];rfl⟩
instance {Q:U→AV} {d:De T} {x:U} {w:T} {a:AV} {l:List (Nat×Ob)} [i:Rw (Q x) a] [j:RwD d w l]:Rw (eD Q d (x,w)) (a,l):=⟨by rw [←i.e,←j.e];rfl⟩
theorem De.inj (d:De T) {a b:T} (h:d.e a=d.e b):a=b:=by
 have h1:=d.ok a fun x=>open Classical in if x=a then some (.DZ,[]) else none
 rw [h,d.ok] at h1;simp at h1;exact h1.symm
instance {Q:U→AV} [gT Q] {d:De T}:gT (eD Q d):=⟨fun a b h=>Prod.ext (gT.inj _ _ (aI Prod.fst h)) (d.inj (aI Prod.snd h))⟩
instance {Q:U→AV} [gT Q] {z:De0}:gT (eZ Q z):=⟨fun a b h=>gT.inj _ _ (aI Prod.fst h)⟩
instance {V:Type} {Q:U→AV} [gT Q] {nm e sz:Nat} {enc:V→List AV} [gT enc]:gT (eR Q nm e sz enc):=⟨fun a b h=>by
 simp only [eR,br,dz,Ob.row.injEq,ig,fO] at h
 exact Prod.ext (gT.inj _ _ h.1) (map_inj gT.inj _ _ h.2)⟩
end
end
section
variable {T U W:Type} {E:T→Out} {Q:U→AV} [gT Q] {c c':Option Out}
theorem I_D {d:De W} {k:U→W→Option Out} {k':U×W→Option T} (h:∀y w,nP E (k y w) (k' (y,w))):nP E (vM c fun r l=>d.r l fun w=>s9 Q r fun y=>k y w) (Option.bind (dec (eD Q d) c) k'):=
 L9 (lS _ _) fun y=>by
  simp only [eD,d.ok,kq];exact h _ _
instance mCallZ {z:De0} [Rw c' c] {k:U→Option Out} {k':U→Option T} [h:∀y,Im E (k' (tg Q y)) (k y)]:Im E (Option.bind (dec (eZ Q z) c') k') (vM c fun r l=>z.r l (s9 Q r k)):=⟨by
 rw [Rw.e (a:=c') (b:=c)];exact L9 (lS _ _) fun y=>by
  simp only [eZ,z.ok,kq];exact (h y).p⟩
instance mCall2 {d:De W} [Rw c' c] {k:U→W→Option Out} {k':U→W→Option T} [h:∀y w,Im E (k' (tg Q y) w) (k y w)]:Im E (Pp (dec (eD Q d) c') k') (vM c fun r l=>d.r l fun w=>s9 Q r fun y=>k y w):=⟨by
 rw [Rw.e (a:=c') (b:=c)];exact I_D fun y w=>(h y w).p⟩
instance mCall3 {W0 W1:Type} {d:De (W0×W1)} [Rw c' c] {k:U→W0→W1→Option Out} {k':U→W0→W1→Option T} [h:∀y w0 w1,Im E (k' (tg Q y) w0 w1) (k y w0 w1)]:Im E (Pq (dec (eD Q d) c') k') (vM c fun r l=>d.r l fun w=>s9 Q r fun y=>k y w.1 w.2):=⟨by
 rw [Rw.e (a:=c') (b:=c)];exact I_D fun y w=>(h y w.1 w.2).p⟩
instance mCall4 {W0 W1 W2:Type} {d:De (W0×W1×W2)} [Rw c' c] {k:U→W0→W1→W2→Option Out} {k':U→W0→W1→W2→Option T} [h:∀y w0 w1 w2,Im E (k' (tg Q y) w0 w1 w2) (k y w0 w1 w2)]:Im E (ua (dec (eD Q d) c') k') (vM c fun r l=>d.r l fun w=>s9 Q r fun y=>k y w.1 w.2.1 w.2.2):=⟨by
 rw [Rw.e (a:=c') (b:=c)];exact I_D fun y w=>(h y w.1 w.2.1 w.2.2).p⟩
instance mCall5 {W0 W1 W2 W3:Type} {d:De (W0×W1×W2×W3)} [Rw c' c] {k:U→W0→W1→W2→W3→Option Out} {k':U→W0→W1→W2→W3→Option T} [h:∀y w0 w1 w2 w3,Im E (k' (tg Q y) w0 w1 w2 w3) (k y w0 w1 w2 w3)]:Im E (FQ (dec (eD Q d) c') k') (vM c fun r l=>d.r l fun w=>s9 Q r fun y=>k y w.1 w.2.1 w.2.2.1 w.2.2.2):=⟨by
 rw [Rw.e (a:=c') (b:=c)];exact I_D fun y w=>(h y w.1 w.2.1 w.2.2.1 w.2.2.2).p⟩
instance mCall6 {W0 W1 W2 W3 W4:Type} {d:De (W0×W1×W2×W3×W4)} [Rw c' c] {k:U→W0→W1→W2→W3→W4→Option Out} {k':U→W0→W1→W2→W3→W4→Option T} [h:∀y w0 w1 w2 w3 w4,Im E (k' (tg Q y) w0 w1 w2 w3 w4) (k y w0 w1 w2 w3 w4)]:Im E (Pr (dec (eD Q d) c') k') (vM c fun r l=>d.r l fun w=>s9 Q r fun y=>k y w.1 w.2.1 w.2.2.1 w.2.2.2.1 w.2.2.2.2):=⟨by
 rw [Rw.e (a:=c') (b:=c)];exact I_D fun y w=>(h y w.1 w.2.1 w.2.2.1 w.2.2.2.1 w.2.2.2.2).p⟩
instance:YY Int (AV.int .i64):=⟨⟩
instance:YY Bool AV.bool:=⟨⟩
instance:YY (List UInt8) AV.str:=⟨⟩
end
section
variable {T:Type} {E:T→Out} {κ ν:Type} {f:κ→AV} {g:ν→AV} {l:List (κ×ν)} {key:κ} {a:AV}
instance mLook [YY κ f] [YY ν g] [GG ⟨κ,f⟩] [i:gT g] [Rw (f key) a] {k:ν→Option Out} {k':ν→Option T} {z:Option Out} {z':Option T} [h:∀y,Im E (k' (tg g y)) (k y)] [Im E z' z]:Im E (Ae l key k' z') (LC (Ua a (dY ⟨κ,f⟩ ⟨ν,g⟩ l).1 (dY ⟨κ,f⟩ ⟨ν,g⟩ l).2) (fun v=>s9 g v k) z):=⟨by
 rw [←Rw.e (a:=f key) (b:=a)];exact @I_look T E ⟨κ,f⟩ ⟨ν,g⟩ _ i l key k k' z z' (fun y=>(h y).p) Im.p⟩
instance mPut [YY κ f] [YY ν g] [GG ⟨κ,f⟩] [i:gT g] [Rw (f key) a] [j:gT f] {v:ν} {b:AV} [Rw (g v) b] {k:List (κ×ν)→Option Out} {k':List (κ×ν)→Option T} [h:∀m,Im E (k' m) (k m)]:Im E (zz (Ed l key v) k') (Uq (Cr a b (dY ⟨κ,f⟩ ⟨ν,g⟩ l).1 (dY ⟨κ,f⟩ ⟨ν,g⟩ l).2) fun p=>s9 (dY ⟨κ,f⟩ ⟨ν,g⟩) p k):=⟨by
 rw [←Rw.e (a:=f key) (b:=a)];exact @I_put T E ⟨κ,f⟩ ⟨ν,g⟩ _ j i l key b v k k' (Rw.e (a:=g v)).symm fun m=>(h m).p⟩
instance [YY κ f] [YY ν g]:Rw l.length (dY ⟨κ,f⟩ ⟨ν,g⟩ l).1.length:=⟨by simp [dY]⟩
end
end Go.AM
