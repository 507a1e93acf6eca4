/- THE ABSTRACT MACHINE. -/
import Derived.Test.YthppjmoncapdfaaGreatDoorAmT
set_option linter.unusedVariables false
namespace Go.AM
class cQ {T α:Type} (enc:T→α):Prop where
 inj:∀a b,enc a=enc b→a=b
def aD (k:IntKind) (a:Int):List AV:=[.int k a]
def eX (s:List UInt8):List AV:=[.str s]
def kA (b:Bool):List AV:=[.bool b]
def bD {T:Type} (sz:Nat) (enc:T→List AV) (l:List T):List AV:=[.aW sz (l.map enc)]
theorem map_inj {T α:Type} {enc:T→α} (h:∀a b,enc a=enc b→a=b):∀(l m:List T),l.map enc=m.map enc→l=m:=by
 intro l
 induction l with
 |nil=>intro m hm;cases m with
  |nil=>rfl
  |cons x m=>simp at hm
 |cons x l ih=>intro m hm;cases m with
  |nil=>simp at hm
  |cons y m=>
   simp only [List.map_cons,List.cons.injEq] at hm;rw [h _ _ hm.1,ih _ hm.2]
instance {k:IntKind}:cQ (aD k):=⟨fun a b h=>by simpa [aD] using h⟩
instance:cQ eX:=⟨fun a b h=>by simpa [eX] using h⟩
instance:cQ kA:=⟨fun a b h=>by simpa [kA] using h⟩
instance {T α:Type} {enc:T→α} [cQ enc]:cQ (List.map enc):=⟨map_inj cQ.inj⟩
instance {T:Type} {sz:Nat} {enc:T→List AV} [cQ enc]:cQ (bD sz enc):=⟨fun a b h=>by
 simp only [bD,List.cons.injEq,AV.aW.injEq,and_true,true_and] at h
 exact map_inj cQ.inj _ _ h⟩
section
variable {R:Type}
theorem gG {α T:Type} {enc:T→α} [cQ enc] (d:T) (k:T→Option R):cD enc (enc d) k=k d:=UN cQ.inj d k
theorem Ja (r:AV) (k:AV→Option R):pQ (some (r,[])) k=k r:=Pd rfl k
theorem Jd (nm e sz:Nat) (r:AV) (xs:List (List AV)) (k:AV→List (List AV)→Option R):Ci (some (r,[(nm, .row e sz xs)])) nm e sz k=k r xs:=Pe rfl k
theorem N7 {α:Type} [Inhabited α] {l:List α} {i:Nat} (h:i<l.length) (k:α→Option R):ec l i k=k (l.getD i default):=
 gq (by rw [List.getElem?_eq_getElem h,List.getD_eq_getElem?_getD,List.getElem?_eq_getElem h];rfl) k
end
theorem Qt (n:Int):IntKind.wrap .i64 n=if 9223372036854775808≤n % 18446744073709551616 then n % 18446744073709551616-18446744073709551616 else n % 18446744073709551616:=by
 show (if (true&&decide (n % 18446744073709551616≥9223372036854775808))=true then n % 18446744073709551616-18446744073709551616 else n % 18446744073709551616)=_;simp only [Bool.true_and,decide_eq_true_eq,ge_iff_le]
theorem iK {n:Int} (h0: -9223372036854775808≤n) (h1:n≤9223372036854775807):IntKind.wrap .i64 n=n:=by
 rw [Qt];split<;>omega
theorem NA (n:Int):IntKind.wrap .u64 n=n % 18446744073709551616:=by
 show (if (false&&decide (n % 18446744073709551616≥9223372036854775808))=true then n % 18446744073709551616-18446744073709551616 else n % 18446744073709551616)=_;simp
theorem D5 {n:Int} (h0:0≤n) (h1:n≤18446744073709551615):IntKind.wrap .u64 n=n:=by
 rw [NA];omega
theorem cU {i:Nat} (h:i<4611686018427387904):IntKind.wrap .i64 ((i:Int)+1)=((i+1:Nat):Int):=by
 rw [iK (by omega) (by omega)];omega
theorem cond_pos {α:Type} {b:Bool} (h:b=true) (x y:α):cond b x y=x:=by subst h;rfl
theorem cond_neg {α:Type} {b:Bool} (h:b=false) (x y:α):cond b x y=y:=by subst h;rfl
end Go.AM
set_option linter.unusedVariables false
namespace Go.AM
theorem Pa (a:List UInt8):Op.bytesLess a a=false:=by
 induction a with
 |nil=>rfl
 |cons x a ih=>simp [Op.bytesLess,ih]
theorem Cc:∀(a b:List UInt8),Op.bytesLess a b=false→a≠b→Op.bytesLess b a=true:=by
 intro a
 induction a with
 |nil=>intro b h hne;cases b with
  |nil=>exact absurd rfl hne
  |cons y b=>simp [Op.bytesLess] at h
 |cons x a ih=>
  intro b h hne;cases b with
  |nil=>rfl
  |cons y b=>
   simp only [Op.bytesLess,Bool.or_eq_false_iff,decide_eq_false_iff_not,Bool.and_eq_false_iff] at h;simp only [Op.bytesLess,Bool.or_eq_true,decide_eq_true_eq,Bool.and_eq_true,beq_iff_eq];by_cases e:x=y
   ·subst e
    refine .inr ⟨rfl,ih b (h.2.resolve_left (by simp)) fun e=>hne (by rw [e])⟩
   ·refine .inl ?_
    have h1:=h.1;simp only [UInt8.lt_iff_toNat_lt] at h1⊢;have:x.toNat≠y.toNat:=fun e2=>e (UInt8.toNat.inj e2)
    omega
theorem I6:∀(a b c:List UInt8),Op.bytesLess a b=true→Op.bytesLess b c=true→Op.bytesLess a c=true:=by
 intro a
 induction a with
 |nil=>intro b c h1 h2;cases c with
  |nil=>simp [Op.bytesLess] at h2
  |cons z c=>rfl
 |cons x a ih=>
  intro b c h1 h2;cases b with
  |nil=>simp [Op.bytesLess] at h1
  |cons y b=>cases c with
   |nil=>simp [Op.bytesLess] at h2
   |cons z c=>
    simp only [Op.bytesLess,Bool.or_eq_true,decide_eq_true_eq,Bool.and_eq_true,beq_iff_eq,UInt8.lt_iff_toNat_lt] at h1 h2⊢;rcases h1 with h1|⟨rfl,h1⟩
    ·rcases h2 with h2|⟨rfl,h2⟩
     ·exact .inl (by omega)
     ·exact .inl h1
    ·rcases h2 with h2|⟨rfl,h2⟩
     ·exact .inl h2
     ·exact .inr ⟨rfl,ih b c h1 h2⟩
theorem rK {a b:List UInt8} (h:Op.bytesLess a b=true):Op.bytesLess b a=false:=by
 cases e:Op.bytesLess b a with
 |false=>rfl
 |true=>have:=I6 _ _ _ h e;rw [Pa] at this;cases this
section
variable {α:Type} (lt:α→α→Bool)
def wD (x:α):List α→List α
 |[]=>[x]
 |y::l=>if lt x y=true then x::y::l else y::wD x l
def mH (l:List α):Prop:=l.Pairwise fun a b=>lt b a=false
theorem SC {x y:α}:∀{l:List α},y∈wD lt x l↔y=x∨y∈l:=by
 intro l
 induction l with
 |nil=>simp [wD]
 |cons z l ih=>
  simp only [wD];split
  ·simp
  ·simp only [List.mem_cons,ih];constructor
   ·rintro (h|h|h)<;>simp [h]
   ·rintro (h|h|h)<;>simp [h]
theorem JU (asymm:∀a b,lt a b=true→lt b a=false) (up:∀x y z,lt x y=true→lt z y=false→lt x z=true) {x:α}:∀{l:List α},mH lt l→mH lt (wD lt x l):=by
 intro l
 induction l with
 |nil=>intro _;simp [wD,mH]
 |cons y l ih=>
  intro hs;simp only [mH,List.pairwise_cons] at hs;simp only [wD];split
  ·rename_i h
   simp only [mH,List.pairwise_cons,List.mem_cons];refine ⟨fun z hz=> ?_,hs⟩;rcases hz with rfl|hz
   ·exact asymm _ _ h
   ·exact asymm _ _ (up _ _ _ h (hs.1 z hz))
  ·rename_i h
   simp only [mH,List.pairwise_cons];refine ⟨fun z hz=> ?_,ih hs.2⟩;rcases (SC lt).1 hz with rfl|hz
   ·simpa using h
   ·exact hs.1 z hz
def gZ (l:List α):List α:=l.foldl (fun out x=>wD lt x out) []
end
end Go.AM
set_option linter.unusedVariables false
namespace Go.AM
abbrev Out:Type:=AV×List (Nat×Ob)
noncomputable def dec {T:Type} (E:T→Out) (c:Option Out):Option T:=
 match c with
 |some r=>open Classical in if h:∃x,E x=r then some h.choose else none
 |none=>none
def fD {T:Type} (E:T→Out) (c:Option Out) (t:Option T):Prop:=∀x,t=some x→c=some (E x)
theorem ef {T:Type} (E:T→Out) (c:Option Out):fD E c (dec E c):=by
 intro x hx;cases c with
 |none=>simp [dec] at hx
 |some r=>
  simp only [dec] at hx;split at hx
  ·rename_i h
   have:=h.choose_spec;simp only [Option.some.injEq] at hx;rw [←hx,this]
  ·simp at hx
theorem fG {T:Type} {E:T→Out} [cQ E] {c:Option Out} {x:T} (h:c=some (E x)):dec E c=some x:=by
 subst h;have hx:∃y,E y=E x:=⟨x,rfl⟩
 simp only [dec,dif_pos hx];rw [cQ.inj _ _ hx.choose_spec]
section
variable {T:Type} {E:T→Out}
theorem ff {c:Out} {x:T} (h:c=E x):fD E (some c) (some x):=by
 intro y hy;simp only [Option.some.injEq] at hy;subst hy;rw [h]
theorem gR {c c':Bool} {a b:Option Out} {a' b':Option T} (hc:c=c') (h1:fD E a a') (h2:fD E b b'):fD E (bif c then a else b) (bif c' then a' else b'):=by
 subst hc;cases c
 ·exact h2
 ·exact h1
theorem Jh {R:Type} {p:Prop} [Decidable p] {a:Option R} {x:R} (h:check p a=some x):p∧a=some x:=by
 unfold check at h;split at h
 ·exact ⟨by assumption,h⟩
 ·simp at h
theorem LB {R:Type} {p:Prop} [Decidable p] {a:Option R} (h:p):check p a=a:=by
 unfold check;rw [if_pos h]
theorem aY {p p':Prop} [Decidable p] [Decidable p'] {a:Option Out} {a':Option T} (hp:p'→p) (h:fD E a a'):fD E (check p a) (check p' a'):=by
 intro x hx;have:=Jh hx;rw [LB (hp this.1)];exact h _ this.2
theorem Rg {α β:Type} {enc:α→β} [cQ enc] {L:List β} {l:List α} {i:Int} {k:α→Option Out} {k':α→Option T} (hl:L=l.map enc) (h:∀x,fD E (k x) (k' x)):
  fD E (bS L i fun c=>cD enc c k) (bS l i k'):=by
 subst hl;intro x hx;unfold bS at hx⊢;split at hx
 ·rename_i h0
  rw [List.getElem?_map];cases e:l[i.toNat]? with
  |none=>rw [e] at hx;simp at hx
  |some y=>
   rw [e] at hx;simp only [Option.map_some,if_pos h0];rw [gG];exact h _ _ hx
 ·simp at hx
theorem K6 {α β:Type} {enc:α→β} [cQ enc] {L:List β} {l:List α} {i:Nat} {k:α→Option Out} {k':α→Option T} (hl:L=l.map enc) (h:∀x,fD E (k x) (k' x)):
  fD E (ec L i fun c=>cD enc c k) (ec l i k'):=by
 subst hl;intro x hx;unfold ec at hx⊢;rw [List.getElem?_map];cases e:l[i]? with
 |none=>rw [e] at hx;simp at hx
 |some y=>
  rw [e] at hx;simp only [Option.map_some];rw [gG];exact h _ _ hx
theorem ND {α β:Type} {enc:α→β} [cQ enc] {L:List β} {l:List α} {i i':Int} {k:α→Option Out} {k':α→Option T} (hl:L=l.map enc) (hi:i=i') (h:∀x,fD E (k x) (k' x)):
  fD E (bS L i fun c=>cD enc c k) (bS l i' k'):=by
 subst hi;exact Rg hl h
theorem NF {α β:Type} {enc:α→β} [cQ enc] {L:List β} {l:List α} {i i':Nat} {k:α→Option Out} {k':α→Option T} (hl:L=l.map enc) (hi:i=i') (h:∀x,fD E (k x) (k' x)):
  fD E (ec L i fun c=>cD enc c k) (ec l i' k'):=by
 subst hi;exact K6 hl h
theorem Xd {α:Type} {l:List α} {i:Int} {k:α→Option Out} {k':α→Option T} (h:∀x,fD E (k x) (k' x)):fD E (bS l i k) (bS l i k'):=by
 intro x hx;unfold bS at hx⊢;split at hx
 ·rename_i h0
  rw [if_pos h0];cases e:l[i.toNat]? with
  |none=>rw [e] at hx;simp at hx
  |some y=>rw [e] at hx;exact h _ _ hx
 ·simp at hx
theorem bind_some {α β:Type} {f:Option α} {k:α→Option β} {x:β} (h:Option.bind f k=some x):∃y,f=some y∧k y=some x:=by
 cases f with
 |none=>simp at h
 |some y=>exact ⟨y,rfl,h⟩
theorem K5 {U:Type} {enc:U→AV} [cQ enc] {E':U→Out} {c:Option Out} {f:Option U} {k:U→Option Out} {k':U→Option T} (hf:fD E' c f) (h:∀y,fD E (k y) (k' y)) (hE:∀y,E' y=(enc y,[]):=by intro _;rfl):
  fD E (pQ c fun r=>cD enc r k) (Option.bind f k'):=by
 intro x hx;obtain ⟨y,h1,h2⟩:=bind_some hx;rw [hf _ h1,hE,Ja,gG];exact h _ _ h2
def NK {U V R:Type} (f:Option (U×V)) (k:U→V→Option R):Option R:=f.bind fun p=>k p.1 p.2
def I4 {U V W R:Type} (f:Option (U×V×W)) (k:U→V→W→Option R):Option R:=f.bind fun p=>k p.1 p.2.1 p.2.2
def T7 {U R:Type} (o:Option U) (k:U→Option R):Option R:=match o with
 |some x=>k x
 |none=>none
def tK {U0 U1 U2 U3 R:Type} (f:Option (U0×U1×U2×U3)) (k:U0→U1→U2→U3→Option R):Option R:=f.bind fun p=>k p.1 p.2.1 p.2.2.1 p.2.2.2
def Ao {U0 U1 U2 U3 U4 R:Type} (f:Option (U0×U1×U2×U3×U4)) (k:U0→U1→U2→U3→U4→Option R):Option R:=f.bind fun p=>k p.1 p.2.1 p.2.2.1 p.2.2.2.1 p.2.2.2.2
def I5 {U0 U1 U2 U3 U4 U5 R:Type} (f:Option (U0×U1×U2×U3×U4×U5)) (k:U0→U1→U2→U3→U4→U5→Option R):Option R:=f.bind fun p=>k p.1 p.2.1 p.2.2.1 p.2.2.2.1 p.2.2.2.2.1 p.2.2.2.2.2
theorem B9 {U V R:Type} (a:U) (b:V) (k:U→V→Option R):NK (some (a,b)) k=k a b:=rfl
theorem Ca {U V W R:Type} (a:U) (b:V) (c:W) (k:U→V→W→Option R):I4 (some (a,b,c)) k=k a b c:=rfl
end
section
variable {α R:Type}
theorem gA {l:List α} {i:Nat} {x:α} {xs:List α} (h:l.drop i=x::xs):i<l.length:=by
 have:=congrArg List.length h;simp only [List.length_drop,List.length_cons] at this;omega
theorem nw {l:List α} {i:Nat} (h:l.drop i=[]):l.length≤i:=by
 have:=congrArg List.length h;simp only [List.length_drop,List.length_nil] at this;omega
theorem dG {l:List α} {i:Nat} {x:α} {xs:List α} (h:l.drop i=x::xs):l[i]? =some x:=by
 have:=congrArg (fun m=>m[0]?) h;simpa using this
theorem cH {l:List α} {i:Nat} {x:α} {xs:List α} (h:l.drop i=x::xs):l.drop (i+1)=xs:=by
 have:=congrArg (List.drop 1) h;simpa [List.drop_drop,Nat.add_comm] using this
theorem cR {l:List α} {i:Nat} {x:α} {xs:List α} (h:l.drop i=x::xs):decide ((i:Int)<(l.length:Int))=true:=by
 have:=gA h;simp;omega
theorem dm {l:List α} {i:Nat} (h:l.drop i=[]):decide ((i:Int)<(l.length:Int))=false:=by
 have:=nw h;simp;omega
theorem bX {l:List α} {i:Nat} {x:α} {xs:List α} (h:l.drop i=x::xs) (k:α→Option R):bS l (i:Int) k=k x:=eo (dG h) k
theorem IZ {l:List α} {i:Nat} {x:α} {xs:List α} (h:l.drop i=x::xs) (k:α→Option R):ec l (Int.toNat (i:Int)) k=k x:=by
 rw [Int.toNat_natCast];exact gq (dG h) k
theorem Ji {l:List α} {i:Nat} {x:α} {xs:List α} (h:l.drop i=x::xs) (a:Option R):check (0≤(i:Int)∧Int.toNat (i:Int)<l.length) a=a:=
 bY ⟨by omega,by rw [Int.toNat_natCast];exact gA h⟩ a
theorem dA {l:List α} {i:Nat} {x:α} {xs:List α} (h:l.drop i=x::xs) (hl:l.length≤1073741824):IntKind.wrap .i64 ((i:Int)+1)=((i+1:Nat):Int):=
 cU (by have:=gA h;omega)
theorem cM {n m c:Nat} (a:Option R) (h:n≤1073741824) (hm:m≤1073741824) (hc:c≤1024):check ((n+m) *c≤140737488355328∧n+m≤4611686018427387904) a=a:=by
 refine bY ⟨?_,by omega⟩ a;have h1:(n+m) *c≤(n+m) *1024:=Nat.mul_le_mul_left _ hc;omega
theorem Fv {n:Nat} (h:n≤1073741824):IntKind.wrap .i64 (((n+1:Nat):Int)-1)=(n:Int):=by
 rw [iK (by omega) (by omega)];omega
def sN (p:α→Bool):List α→Nat→Int
 |[],_=> -1
 |x::xs,i=>if p x then (i:Int) else sN p xs (i+1)
theorem aH {α β:Type} (a:α) (k:α→Option β):Option.bind (some a) k=k a:=rfl
theorem ek {l:List α} {i:Nat} (h:i<l.length) (k:α→Option R):bS l (i:Int) k=k l[i]:=eo (List.getElem?_eq_getElem h) k
theorem Vl {l:List α} {i:Nat} (h:i<l.length) (k:α→Option R):ec l i k=k l[i]:=gq (List.getElem?_eq_getElem h) k
end
def EN {U:Type} (enc:U→AV):U→Out:=fun x=>(enc x,[])
instance {U:Type} {enc:U→AV} [cQ enc]:cQ (EN enc):=⟨fun a b h=>cQ.inj _ _ (congrArg Prod.fst h)⟩
section
variable {T:Type} {E:T→Out}
theorem Is {x:T}:fD E (some (E x)) (some x):=ff rfl
theorem Iz {c:Option Out}:fD E c (dec E c):=ef _ _
theorem Ic {c:Bool} {a b:Option Out} {a' b':Option T} (h1:fD E a a') (h2:fD E b b'):fD E (bif c then a else b) (bif c then a' else b'):=gR rfl h1 h2
theorem Ih {p:Prop} [Decidable p] {a:Option Out} {a':Option T} (h:fD E a a'):fD E (check p a) (check p a'):=aY id h
theorem Ig {α β:Type} (enc:α→β) [cQ enc] {l:List α} {i:Int} {k:α→Option Out} {k':α→Option T} (h:∀x,fD E (k x) (k' x)):fD E (bS (l.map enc) i fun c=>cD enc c k) (bS l i k'):=Rg rfl h
theorem In {α β:Type} (enc:α→β) [cQ enc] {l:List α} {i:Nat} {k:α→Option Out} {k':α→Option T} (h:∀x,fD E (k x) (k' x)):fD E (ec (l.map enc) i fun c=>cD enc c k) (ec l i k'):=K6 rfl h
theorem Ik {U:Type} {enc:U→AV} [cQ enc] {c:Option Out} {k:U→Option Out} {k':U→Option T} (h:∀y,fD E (k y) (k' y)):fD E (pQ c fun r=>cD enc r k) (Option.bind (dec (EN enc) c) k'):=K5 (ef _ _) h
end
theorem lN {T:Type} {E:T→Out} [cQ E] {raw body c:Option Out} {t:Option T} {r:T} (ht:t=some r) (hi:fD E raw t) (hk:body=raw) (h:∀{r:Out},body=some r→c=some r):dec E c=some r:=
 fG (h (hk.trans (hi _ ht)))
class FC (K:mF):Prop where
 is:∀a b:K.T,∃(inst:Decidable (a=b)),p9 (K.enc a) (K.enc b)=some (decide (a=b))
section
variable {R:Type}
noncomputable def uF {K V:Type} (l:List (K×V)) (key:K):Option Nat:=open Classical in l.findIdx? fun p=>decide (key=p.1)
noncomputable def zP {K V:Type} (l:List (K×V)) (key:K) (v:V):List (K×V):=match uF l key with
 |some i=>l.set i (key,v)
 |none=>l++[(key,v)]
noncomputable def getM {K V:Type} (l:List (K×V)) (key:K):Option V:=(uF l key).bind fun i=>(l[i]?).map (·.2)
noncomputable def vO {K V:Type} (l:List (K×V)) (key:K) (k:V→Option R) (z:Option R):Option R:=match getM l key with
 |some v=>k v
 |none=>z
def uy {α:Type} (x:α) (k:α→Option R):Option R:=k x
end
theorem E8 {K:mF} [FC K] {V:Type} (key:K.T):∀l:List (K.T×V),j8 (K.enc key) (l.map fun p=>K.enc p.1)=some (uF l key):=by
 intro l
 induction l with
 |nil=>rfl
 |cons p l ih=>
  obtain ⟨inst,h⟩:=FC.is (K:=K) key p.1;rw [List.map_cons,j8,h];unfold uF;rw [List.findIdx?_cons];by_cases e:key=p.1
  ·simp [e]
  ·have:decide (key=p.1)=false:=by simpa using e
   rw [this];simp only [ih,Option.map_some,e,decide_false,Bool.false_eq_true,if_false];rfl
theorem OJ {K V:Type} {l:List (K×V)} {key:K} {i:Nat} (h:uF l key=some i):∃hi:i<l.length,(l[i]'hi).1=key:=by
 unfold uF at h;rw [List.findIdx?_eq_some_iff_getElem] at h;obtain ⟨hi,h1,_⟩:=h;simp only [decide_eq_true_eq] at h1;exact ⟨hi,h1.symm⟩
theorem mM {K V:mF} [cQ K.enc] [cQ V.enc]:∀{a b:List (K.T×V.T)},(bW K V a).1=(bW K V b).1→(bW K V a).2=(bW K V b).2→a=b:=by
 intro a
 induction a with
 |nil=>intro b h _;cases b with
  |nil=>rfl
  |cons x b=>simp [bW] at h
 |cons x a ih=>intro b h h2;cases b with
  |nil=>simp [bW] at h
  |cons y b=>
   simp only [bW,List.map_cons,List.cons.injEq] at h h2;obtain ⟨x1,x2⟩:=x;obtain ⟨y1,y2⟩:=y;have e1:x1=y1:=cQ.inj _ _ h.1;have e2:x2=y2:=cQ.inj _ _ h2.1;rw [e1,e2,ih h.2 h2.2]
instance {K V:mF} [cQ K.enc] [cQ V.enc]:cQ (bW K V):=⟨fun a b h=>mM (congrArg Prod.fst h) (congrArg Prod.snd h)⟩
instance {U:Type} {enc:U→List AV} [cQ enc]:cQ (F4 enc):=⟨fun a b h=>by
 cases a<;>cases b<;>simp only [F4,AV.ref.injEq,reduceCtorEq] at h
 ·rfl
 ·rw [cQ.inj _ _ h]⟩
instance {K:mF} {E:Ah} [cQ K.enc] [cQ E.enc]:cQ (Cr K E):=⟨fun a b=>by
 induction a generalizing b with
 |nil=>intro h;cases b with
  |nil=>rfl
  |cons y b=>simp [Cr] at h
 |cons x a ih=>intro h;cases b with
  |nil=>simp [Cr] at h
  |cons y b=>
   simp only [Cr,List.map_cons,Prod.mk.injEq,List.cons.injEq] at h;obtain ⟨⟨h1,h2⟩,h3,h4⟩:=h;obtain ⟨x1,x2⟩:=x;obtain ⟨y1,y2⟩:=y;have e2:x2=y2:=by
    cases x2<;>cases y2<;>simp only [Option.map_some,Option.map_none,Option.some.injEq,reduceCtorEq] at h3
    ·rfl
    ·rw [map_inj cQ.inj _ _ h3]
   have e1:x1=y1:=cQ.inj _ _ h1
   rw [e1,e2,ih b (by simp only [Cr];rw [h2,h4])]⟩
theorem TF {K V:mF} [FC K] (key:K.T) (l:List (K.T×V.T)):Kb (K.enc key) (bW K V l).1 (bW K V l).2=some ((getM l key).map V.enc):=by
 unfold Kb bW getM;rw [E8];cases h:uF l key with
 |none=>rfl
 |some i=>
  obtain ⟨hi,_⟩:=OJ h;simp [List.getElem?_eq_getElem hi]
theorem KJ {K V:mF} {l:List (K.T×V.T)} {key:K.T} {v:V.T} {i:Nat} (h:uF l key=some i):bW K V (l.set i (key,v))=((bW K V l).1,(bW K V l).2.set i (V.enc v)):=by
 obtain ⟨hi,e⟩:=OJ h;unfold bW;rw [Prod.mk.injEq];constructor
 ·rw [List.map_set]
  apply List.ext_getElem
  ·simp
  ·intro j h1 h2
   rw [List.getElem_set];split
   ·rename_i hj;subst hj;simp [e]
   ·rfl
 ·rw [List.map_set]
theorem TJ {K V:mF} [FC K] (key:K.T) (v:V.T) (l:List (K.T×V.T)):vr (K.enc key) (V.enc v) (bW K V l).1 (bW K V l).2=some (bW K V (zP l key v)):=by
 have hf:j8 (K.enc key) (bW K V l).1=some (uF l key):=E8 key l;unfold vr zP;rw [hf];cases h:uF l key with
 |none=>simp [bW]
 |some i=>simp only [KJ h]
section
variable {T:Type} {E:T→Out}
theorem FB {K V:mF} [FC K] [cQ V.enc] {l:List (K.T×V.T)} {key:K.T} {k:V.T→Option Out} {k':V.T→Option T} {z:Option Out} {z':Option T} (h:∀y,fD E (k y) (k' y)) (hz:fD E z z'):
  fD E (Da (Kb (K.enc key) (bW K V l).1 (bW K V l).2) (fun v=>cD V.enc v k) z) (vO l key k' z'):=by
 intro x hx;unfold vO at hx;unfold Da;rw [TF];cases e:getM l key with
 |none=>rw [e] at hx;exact hz _ hx
 |some v=>rw [e] at hx;simp only [Option.map_some];rw [gG];exact h _ _ hx
theorem NG {K V:mF} [FC K] [cQ K.enc] [cQ V.enc] {l:List (K.T×V.T)} {key:K.T} {a:AV} {v:V.T} {k:List (K.T×V.T)→Option Out} {k':List (K.T×V.T)→Option T} (ha:a=V.enc v) (h:∀m,fD E (k m) (k' m)):
  fD E (Kt (vr (K.enc key) a (bW K V l).1 (bW K V l).2) fun p=>cD (bW K V) p k) (uy (zP l key v) k'):=by
 subst ha;intro x hx;unfold Kt;rw [TJ];simp only [gG];exact h _ _ hx
def iS {A:Type} (enc:A→List AV) (k:Nat):A→List AV:=fun x=>(enc x).set k .hole
abbrev kB {V:Type} (enc:V→List AV):List (Option (List V))→List (Option (List (List AV))):=List.map (Option.map (List.map enc))
instance {V:Type} (enc:V→List AV) [cQ enc]:cQ (kB enc):=⟨fun a b h=>by
 refine map_inj (fun x y e=> ?_) _ _ h;cases x<;>cases y<;>simp at e⊢
 exact map_inj cQ.inj _ _ e⟩
instance {V:Type} (enc:V→List AV) [cQ enc]:cQ (List.map (Option.map (List.map enc))):=inferInstanceAs (cQ (kB enc))
def M3 {R V:Type} (ys:List (Option (List V))) (i:Nat) (k:List V→List (Option (List V))→Option R):Option R:=match ys[i]? with
 |some (some zs)=>k zs (ys.set i none)
 |_=>none
def nrT {R V:Type} (ys:List (Option (List V))) (i:Nat) (k:List V→Option R):Option R:=match ys[i]? with
 |some (some zs)=>k zs
 |_=>none
def vC {A' A V:Type} (kT:A'→List V→A):List A'→List (Option (List V))→Option (List A)
 |[],[]=>some []
 |x::xs,some y::ys=>(vC kT xs ys).map (kT x y:: ·)
 |_,_=>none
def O3 {R A' A V:Type} (kT:A'→List V→A) (xs:List A') (ys:List (Option (List V))) (k:List A→Option R):Option R:=match vC kT xs ys with
 |some l=>k l
 |none=>none
theorem I_nr {V:Type} {enc:V→List AV} [cQ enc] {Y:List (Option (List V))} {i:Nat} {k:List V→Option Out} {k':List V→Option T} (h:∀zs,fD E (k zs) (k' zs)):
  fD E (Kk (kB enc Y) i fun c=>cD (List.map enc) c k) (nrT Y i k'):=by
 intro x hx;unfold nrT at hx;split at hx
 ·rename_i zs hz
  have e1:(kB enc Y)[i]? =some (some (zs.map enc)):=by simp [hz]
  unfold Kk;rw [e1];simp only;rw [gG];exact h _ _ hx
 ·cases hx
theorem Wm {V:Type} {enc:V→List AV} [cQ enc] {Y:List (Option (List V))} {i:Nat} {k:List V→List (Option (List V))→Option Out} {k':List V→List (Option (List V))→Option T} (h:∀zs y,fD E (k zs y) (k' zs y)):
  fD E (Kk (kB enc Y) i fun c=>cD (List.map enc) c fun zs=>cD (kB enc) ((kB enc Y).set i none) fun y=>k zs y) (M3 Y i k'):=by
 intro x hx;unfold M3 at hx;split at hx
 ·rename_i zs hz
  have e1:(kB enc Y)[i]? =some (some (zs.map enc)):=by simp [hz]
  have e2:(kB enc Y).set i none=kB enc (Y.set i none):=by rw [kB,List.map_set];rfl
  unfold Kk;rw [e1];simp only;rw [gG,e2,gG];exact h _ _ _ hx
 ·cases hx
theorem K7 {V:Type} {enc:V→List AV} [cQ enc] {Y:List (Option (List V))} {i:Nat} {L:List (List AV)} {zs:List V} {k:List (Option (List V))→Option Out} {k':List (Option (List V))→Option T} (hl:L=zs.map enc) (h:∀y,fD E (k y) (k' y)):
  fD E (check (i<(kB enc Y).length) (cD (kB enc) ((kB enc Y).set i (some L)) k)) (check (i<Y.length) (uy (Y.set i (some zs)) k')):=by
 subst hl;refine aY (by simp) ?_;have e2:(kB enc Y).set i (some (zs.map enc))=kB enc (Y.set i (some zs)):=by rw [kB,List.map_set];rfl
 rw [e2,gG];exact h _
theorem ES {A' A V:Type} {Pr:A'→List AV} {enc:A→List AV} {LL:V→List AV} {kT:A'→List V→A} {k s:Nat} (hu:∀x z,(Pr x).set k (.aW s (z.map LL))=enc (kT x z)):∀{xs:List A'} {ys:List (Option (List V))} {l:List A},vC kT xs ys=some l→
  ∃c,jL (kB LL ys)=some c∧rA k s (xs.map Pr) c=l.map enc
 |[],[],l,h=>by simp only [vC,Option.some.injEq] at h;subst h;exact ⟨[],rfl,rfl⟩
 |x::xs,some y::ys,l,h=>by
  simp only [vC,Option.map_eq_some_iff] at h;obtain ⟨l',hl',rfl⟩:=h;obtain ⟨c,hc,he⟩:=ES hu hl';refine ⟨y.map LL::c,?_,?_⟩
  ·simp only [kB,List.map_cons,Option.map_some,jL] at hc⊢
   rw [hc];rfl
  ·simp only [List.map_cons,rA,hu,he]
 |[],_::_,l,h=>by simp [vC] at h
 |_::_,[],l,h=>by simp [vC] at h
 |_::_,none::_,l,h=>by simp [vC] at h
theorem Xb {A' A V:Type} {Pr:A'→List AV} {enc:A→List AV} [cQ enc] {LL:V→List AV} {kT:A'→List V→A} {q s:Nat} {xs:List A'} {ys:List (Option (List V))} {k:List A→Option Out} {k':List A→Option T} (h:∀m,fD E (k m) (k' m))
  (hu:∀x z,(Pr x).set q (.aW s (z.map LL))=enc (kT x z):=by intro _ _;rfl):
  fD E (Lg (jL (kB LL ys)) fun c=>cD (List.map enc) (rA q s (xs.map Pr) c) k) (O3 kT xs ys k'):=by
 intro x hx;unfold O3 at hx;split at hx
 ·rename_i m hm
  obtain ⟨c,hc,he⟩:=ES hu hm;unfold Lg;rw [hc];simp only;rw [he,gG];exact h _ _ hx
 ·cases hx
theorem K4 {V:Type} {enc:V→List AV} [cQ enc] {Y Z:List (Option (List V))} {k:List (Option (List V))→Option Out} {k':List (Option (List V))→Option T} (h:∀y,fD E (k y) (k' y)):
  fD E (cD (kB enc) (kB enc Y++kB enc Z) k) (uy (Y++Z) k'):=by
 have e:kB enc Y++kB enc Z=kB enc (Y++Z):=by rw [kB,List.map_append]
 rw [e,gG];exact h _
theorem gF {U:Type} {E':U→Out} {c:Option Out} {f:Option U} {kk:AV→List (Nat×Ob)→Option Out} {k':U→Option T} (hf:fD E' c f) (h:∀y,fD E (kk (E' y).1 (E' y).2) (k' y)):fD E (eU c kk) (Option.bind f k'):=by
 intro x hx;obtain ⟨y,h1,h2⟩:=bind_some hx;rw [hf _ h1];unfold eU;exact h _ _ h2
theorem IV {U V:Type} {E':U×V→Out} {c:Option Out} {f:Option (U×V)} {kk:AV→List (Nat×Ob)→Option Out} {k':U→V→Option T} (hf:fD E' c f) (h:∀y v,fD E (kk (E' (y,v)).1 (E' (y,v)).2) (k' y v)):fD E (eU c kk) (NK f k'):=
 gF hf fun p=>h p.1 p.2
theorem IW {U V W:Type} {E':U×V×W→Out} {c:Option Out} {f:Option (U×V×W)} {kk:AV→List (Nat×Ob)→Option Out} {k':U→V→W→Option T} (hf:fD E' c f) (h:∀y v w,fD E (kk (E' (y,v,w)).1 (E' (y,v,w)).2) (k' y v w)):fD E (eU c kk) (I4 f k'):=
 gF hf fun p=>h p.1 p.2.1 p.2.2
theorem FA {U:Type} {enc:U→List AV} [cQ enc] {o:Option U} {k:U→Option Out} {k':U→Option T} (h:∀x,fD E (k x) (k' x)):fD E (T6 (F4 enc o) fun cs=>cD enc cs k) (T7 o k'):=by
 intro x hx;cases o with
 |none=>simp [T7] at hx
 |some y=>
  unfold T6 F4;simp only;rw [gG];exact h _ _ hx
theorem ku {U0 U1 U2 U3:Type} {E':U0×U1×U2×U3→Out} {c:Option Out} {f:Option (U0×U1×U2×U3)} {kk:AV→List (Nat×Ob)→Option Out} {k':U0→U1→U2→U3→Option T} (hf:fD E' c f) (h:∀a0 a1 a2 a3,fD E (kk (E' (a0,a1,a2,a3)).1 (E' (a0,a1,a2,a3)).2) (k' a0 a1 a2 a3)):fD E (eU c kk) (tK f k'):=
 gF hf fun p=>h p.1 p.2.1 p.2.2.1 p.2.2.2
theorem xB {U0 U1 U2 U3 U4:Type} {E':U0×U1×U2×U3×U4→Out} {c:Option Out} {f:Option (U0×U1×U2×U3×U4)} {kk:AV→List (Nat×Ob)→Option Out} {k':U0→U1→U2→U3→U4→Option T} (hf:fD E' c f) (h:∀a0 a1 a2 a3 a4,fD E (kk (E' (a0,a1,a2,a3,a4)).1 (E' (a0,a1,a2,a3,a4)).2) (k' a0 a1 a2 a3 a4)):fD E (eU c kk) (Ao f k'):=
 gF hf fun p=>h p.1 p.2.1 p.2.2.1 p.2.2.2.1 p.2.2.2.2
theorem IX {U0 U1 U2 U3 U4 U5:Type} {E':U0×U1×U2×U3×U4×U5→Out} {c:Option Out} {f:Option (U0×U1×U2×U3×U4×U5)} {kk:AV→List (Nat×Ob)→Option Out} {k':U0→U1→U2→U3→U4→U5→Option T} (hf:fD E' c f) (h:∀a0 a1 a2 a3 a4 a5,fD E (kk (E' (a0,a1,a2,a3,a4,a5)).1 (E' (a0,a1,a2,a3,a4,a5)).2) (k' a0 a1 a2 a3 a4 a5)):fD E (eU c kk) (I5 f k'):=
 gF hf fun p=>h p.1 p.2.1 p.2.2.1 p.2.2.2.1 p.2.2.2.2.1 p.2.2.2.2.2
theorem az {nm:Nat} {o:Ob} {l:List (Nat×Ob)} {k:Ob→List (Nat×Ob)→Option Out} {t:Option T} (h:fD E (k o l) t):fD E (ai nm ((nm,o)::l) k) t:=by
 have:ai nm ((nm,o)::l) k=k o l:=by
  unfold ai;simp only [Nat.beq_refl,cond_true]
 rw [this];exact h
theorem cr {α:Type} {enc:α→List AV} [cQ enc] {e sz:Nat} {xs:List α} {k:List α→Option Out} {t:Option T} (h:fD E (k xs) t):fD E (bu e sz (.row e sz (xs.map enc)) fun c=>cD (List.map enc) c k) t:=by
 have:(bu e sz (.row e sz (xs.map enc)) fun c=>cD (List.map enc) c k)=cD (List.map enc) (List.map enc xs) k:=by
  unfold bu;simp only [Nat.beq_refl,Bool.and_self,cond_true]
 rw [this,gG];exact h
theorem Bm {K V:mF} [cQ K.enc] [cQ V.enc] {kt et:Nat} {l:List (K.T×V.T)} {k:List (K.T×V.T)→Option Out} {t:Option T} (h:fD E (k l) t):fD E (rI kt et (.mp kt et (bW K V l).1 (bW K V l).2) fun c=>cD (bW K V) c k) t:=by
 have:(rI kt et (.mp kt et (bW K V l).1 (bW K V l).2) fun c=>cD (bW K V) c k)=cD (bW K V) (bW K V l) k:=by
  unfold rI;simp only [Nat.beq_refl,Bool.and_self,cond_true]
 rw [this,gG];exact h
theorem Xc {xs:List AV} {k:List AV→Option Out} {t:Option T} (h:fD E (k xs) t):fD E (Ru (.lp xs) k) t:=by
 unfold Ru;exact h
theorem bG {o:Ob} {k:Option Out} {t:Option T} (h:fD E k t):fD E (bC o o k) t:=by
 unfold bC;rw [if_pos rfl];exact h
theorem fV {k:Option Out} {t:Option T} (h:fD E k t):fD E (eF [] k) t:=by
 unfold eF;exact h
theorem fW {U:Type} {enc:U→AV} [cQ enc] {y:U} {k:U→Option Out} {t:Option T} (h:fD E (k y) t):fD E (cD enc (enc y) k) t:=by rw [gG];exact h
end
end Go.AM
set_option linter.unusedVariables false
set_option synthInstance.maxSize 100000
set_option synthInstance.maxHeartbeats 1000000
namespace Go.AM
universe u v
class Rw {α:Sort u} (a:α) (b:outParam α):Prop where
 e:a=b
class EP (α:Type) (enc:outParam (α→List AV)):Prop
class En {α:Type} (l:List α) (enc:outParam (α→List AV)):Prop
class Im {T:Type} (E:T→Out) (t:Option T) (c:outParam (Option Out)):Prop where
 p:fD E c t
theorem li {T:Type} {E:T→Out} [cQ E] {body c raw:Option Out} {t:Option T} [i:Im E t raw] {r:T} (ht:t=some r) (hk:body=raw) (h:∀{r:Out},body=some r→c=some r):dec E c=some r:=
 lN ht i.p hk h
section
instance (priority:=low) iSelf {α:Sort u} (a:α):Rw a a:=⟨rfl⟩
instance (priority:=low) iEn {α:Type} {enc:α→List AV} [EP α enc] (l:List α):En l enc:=⟨⟩
instance:EP Int (aD .i64):=⟨⟩
instance:EP (List UInt8) eX:=⟨⟩
instance:EP Bool kA:=⟨⟩
instance:EP (List Int) (bD 1 (aD .i64)):=⟨⟩
instance:EP (List (List UInt8)) (bD 1 eX):=⟨⟩
variable {α:Type u} {β:Type v}
instance iCons {a a':α} {l l':List α} [Rw a a'] [Rw l l']:Rw (a::l) (a'::l'):=⟨by cases Rw.e (a:=a) (b:=a');cases Rw.e (a:=l) (b:=l');rfl⟩
instance iPair {a a':α} {b b':β} [Rw a a'] [Rw b b']:Rw (a,b) (a',b'):=⟨by cases Rw.e (a:=a) (b:=a');cases Rw.e (a:=b) (b:=b');rfl⟩
instance iSet {f:α→β} {l:List α} {L:List β} {i i':Nat} {x:α} {y:β} [Rw (l.map f) L] [Rw i i'] [Rw (f x) y]:Rw ((l.set i x).map f) (L.set i' y):=⟨by cases Rw.e (a:=(l.map f)) (b:=L);cases Rw.e (a:=i) (b:=i');cases Rw.e (a:=(f x)) (b:=y);exact List.map_set ..⟩
instance iApp {f:α→β} {l m:List α} {L M:List β} [Rw (l.map f) L] [Rw (m.map f) M]:Rw ((l++m).map f) (L++M):=⟨by cases Rw.e (a:=(l.map f)) (b:=L);cases Rw.e (a:=(m.map f)) (b:=M);exact List.map_append ..⟩
instance iMc {f:α→β} {x:α} {y:β} {l:List α} {L:List β} [Rw (f x) y] [Rw (l.map f) L]:Rw ((x::l).map f) (y::L):=⟨by cases Rw.e (a:=(f x)) (b:=y);cases Rw.e (a:=(l.map f)) (b:=L);rfl⟩
instance iMn {f:α→β}:Rw (([]:List α).map f) []:=⟨rfl⟩
instance iTake {f:α→β} {l:List α} {L:List β} {n n':Nat} [Rw (l.map f) L] [Rw n n']:Rw ((l.take n).map f) (L.take n'):=⟨by cases Rw.e (a:=(l.map f)) (b:=L);cases Rw.e (a:=n) (b:=n');exact List.map_take ..⟩
instance iDrop {f:α→β} {l:List α} {L:List β} {n n':Nat} [Rw (l.map f) L] [Rw n n']:Rw ((l.drop n).map f) (L.drop n'):=⟨by cases Rw.e (a:=(l.map f)) (b:=L);cases Rw.e (a:=n) (b:=n');exact List.map_drop ..⟩
instance iRep {f:α→β} {n n':Nat} {x:α} {y:β} [Rw n n'] [Rw (f x) y]:Rw ((List.replicate n x).map f) (List.replicate n' y):=⟨by cases Rw.e (a:=n) (b:=n');cases Rw.e (a:=(f x)) (b:=y);exact List.map_replicate ..⟩
instance iELst {U:Type} {s:Nat} {f:U→List AV} {l:List U} {L:List (List AV)} [Rw (l.map f) L]:Rw (bD s f l) [.aW s L]:=⟨by cases Rw.e (a:=(l.map f)) (b:=L);rfl⟩
instance iEInt {k:IntKind} {x y:Int} [Rw x y]:Rw (aD k x) [.int k y]:=⟨by cases Rw.e (a:=x) (b:=y);rfl⟩
instance {x y:AV} [Rw x y]:Rw (SV.pv x) (.pv y):=⟨by cases Rw.e (a:=x) (b:=y);rfl⟩
instance {k:IntKind} {x y:Int} [Rw x y]:Rw (AV.int k x) (.int k y):=⟨by cases Rw.e (a:=x) (b:=y);rfl⟩
instance {s:Nat} {x y:List (List AV)} [Rw x y]:Rw (AV.aW s x) (.aW s y):=⟨by cases Rw.e (a:=x) (b:=y);rfl⟩
instance {x y:List AV} [Rw x y]:Rw (AV.agg x) (.agg y):=⟨by cases Rw.e (a:=x) (b:=y);rfl⟩
instance {x y:List AV} [Rw x y]:Rw (AV.dI x) (.dI y):=⟨by cases Rw.e (a:=x) (b:=y);rfl⟩
instance {x y:Bool} [Rw x y]:Rw (AV.bool x) (.bool y):=⟨by cases Rw.e (a:=x) (b:=y);rfl⟩
instance {x y:List UInt8} [Rw x y]:Rw (AV.str x) (.str y):=⟨by cases Rw.e (a:=x) (b:=y);rfl⟩
instance {e s:Nat} {x y:List (List AV)} [Rw x y]:Rw (Ob.row e s x) (.row e s y):=⟨by cases Rw.e (a:=x) (b:=y);rfl⟩
instance {e:Nat} {x y:List SV} [Rw x y]:Rw (Ob.box e x) (.box e y):=⟨by cases Rw.e (a:=x) (b:=y);rfl⟩
instance iLen {U:Type} {l:List U} {enc:U→List AV} {L:List (List AV)} [En l enc] [Rw (l.map enc) L]:Rw l.length L.length:=⟨by cases Rw.e (a:=(l.map enc)) (b:=L);exact (List.length_map ..).symm⟩
instance {x y:Nat} [Rw x y]:Rw (x:Int) (y:Int):=⟨by cases Rw.e (a:=x) (b:=y);rfl⟩
instance {x y:Int} [Rw x y]:Rw (Int.toNat x) (Int.toNat y):=⟨by cases Rw.e (a:=x) (b:=y);rfl⟩
instance {k:IntKind} {x y:Int} [Rw x y]:Rw (IntKind.wrap k x) (IntKind.wrap k y):=⟨by cases Rw.e (a:=x) (b:=y);rfl⟩
instance [HAdd α α α] {a b a' b':α} [Rw a a'] [Rw b b']:Rw (a+b) (a'+b'):=⟨by cases Rw.e (a:=a) (b:=a');cases Rw.e (a:=b) (b:=b');rfl⟩
instance [HSub α α α] {a b a' b':α} [Rw a a'] [Rw b b']:Rw (a-b) (a'-b'):=⟨by cases Rw.e (a:=a) (b:=a');cases Rw.e (a:=b) (b:=b');rfl⟩
instance [HMul α α α] {a b a' b':α} [Rw a a'] [Rw b b']:Rw (a *b) (a' *b'):=⟨by cases Rw.e (a:=a) (b:=a');cases Rw.e (a:=b) (b:=b');rfl⟩
instance [LT α] {a b a' b':α} [Rw a a'] [Rw b b']:Rw (a<b) (a'<b'):=⟨by cases Rw.e (a:=a) (b:=a');cases Rw.e (a:=b) (b:=b');rfl⟩
instance [LE α] {a b a' b':α} [Rw a a'] [Rw b b']:Rw (a≤b) (a'≤b'):=⟨by cases Rw.e (a:=a) (b:=a');cases Rw.e (a:=b) (b:=b');rfl⟩
instance [LT α] {a b a' b':α} [Rw a a'] [Rw b b']:Rw (a>b) (a'>b'):=⟨by cases Rw.e (a:=a) (b:=a');cases Rw.e (a:=b) (b:=b');rfl⟩
instance [LE α] {a b a' b':α} [Rw a a'] [Rw b b']:Rw (a≥b) (a'≥b'):=⟨by cases Rw.e (a:=a) (b:=a');cases Rw.e (a:=b) (b:=b');rfl⟩
instance {p q p' q':Prop} [Rw p p'] [Rw q q']:Rw (p∧q) (p'∧q'):=⟨by cases Rw.e (a:=p) (b:=p');cases Rw.e (a:=q) (b:=q');rfl⟩
instance {p p':Prop} [Rw p p'] [i:Decidable p] [j:Decidable p']:Rw (decide p) (decide p'):=⟨by
 cases Rw.e (a:=p) (b:=p');congr⟩
instance [BEq α] {a b a' b':α} [Rw a a'] [Rw b b']:Rw (a==b) (a'==b'):=⟨by cases Rw.e (a:=a) (b:=a');cases Rw.e (a:=b) (b:=b');rfl⟩
instance [BEq α] {a b a' b':α} [Rw a a'] [Rw b b']:Rw (a !=b) (a' !=b'):=⟨by cases Rw.e (a:=a) (b:=a');cases Rw.e (a:=b) (b:=b');rfl⟩
instance {a a':Bool} [Rw a a']:Rw (!a) (!a'):=⟨by cases Rw.e (a:=a) (b:=a');rfl⟩
instance {a b a' b':Bool} [Rw a a'] [Rw b b']:Rw (a&&b) (a'&&b'):=⟨by cases Rw.e (a:=a) (b:=a');cases Rw.e (a:=b) (b:=b');rfl⟩
instance iRun {P:Program} {H:Nat→Hint} {dg:cL} {f:Nat} {a a':List SV} {l l':List (Nat×Ob)} [Rw a a'] [Rw l l']:Rw (run P H dg f a l) (run P H dg f a' l'):=⟨by cases Rw.e (a:=a) (b:=a');cases Rw.e (a:=l) (b:=l');rfl⟩
instance iHead {P:Program} {C:iy} {H:Nat→Hint} {dg:cL} {f key:Nat} {nm:List Nat} {a a':List (Nat×SV)} {l l':List (Nat×Ob)} [Rw a a'] [Rw l l']:Rw (nR P C H dg f key nm a l) (nR P C H dg f key nm a' l'):=⟨by cases Rw.e (a:=a) (b:=a');cases Rw.e (a:=l) (b:=l');rfl⟩
end
section
variable {T:Type} {E:T→Out}
instance mSome {x:T} {y:Out} [Rw (E x) y]:Im E (some x) (some y):=⟨ff (Rw.e (a:=E x)).symm⟩
instance mDec {c c':Option Out} [Rw c c']:Im E (dec E c) c':=⟨by rw [←Rw.e (a:=c) (b:=c')];exact Iz⟩
instance mCond {c c':Bool} {a b:Option Out} {a' b':Option T} [Rw c' c] [Im E a' a] [Im E b' b]:Im E (bif c' then a' else b') (bif c then a else b):=⟨gR (Rw.e (a:=c')).symm (Im.p (t:=a')) (Im.p (t:=b'))⟩
instance mCheck {p p':Prop} [Decidable p'] [Rw p' p] [Decidable p] {a:Option Out} {a':Option T} [Im E a' a]:Im E (check p' a') (check p a):=⟨aY (fun h=>by rw [←Rw.e (a:=p') (b:=p)];exact h) (Im.p (t:=a'))⟩
instance mGetK {α:Type} {enc:α→List AV} {l:List α} [En l enc] [cQ enc] {L:List (List AV)} [Rw (l.map enc) L] {i i':Int} [Rw i' i] {k:α→Option Out} {k':α→Option T} [∀x,Im E (k' x) (k x)]:Im E (bS l i' k') (bS L i fun c=>cD enc c k):=⟨ND (Rw.e (a:=l.map enc)).symm (Rw.e (a:=i')).symm fun x=>Im.p (t:=k' x)⟩
instance mGetN {α:Type} {enc:α→List AV} {l:List α} [En l enc] [cQ enc] {L:List (List AV)} [Rw (l.map enc) L] {i i':Nat} [Rw i' i] {k:α→Option Out} {k':α→Option T} [∀x,Im E (k' x) (k x)]:Im E (ec l i' k') (ec L i fun c=>cD enc c k):=⟨NF (Rw.e (a:=l.map enc)).symm (Rw.e (a:=i')).symm fun x=>Im.p (t:=k' x)⟩
instance mGetb {l:List UInt8} {i i':Int} [Rw i' i] {k:UInt8→Option Out} {k':UInt8→Option T} [∀x,Im E (k' x) (k x)]:Im E (bS l i' k') (bS l i k):=⟨by rw [Rw.e (a:=i') (b:=i)];exact Xd fun x=>Im.p (t:=k' x)⟩
instance mCall {U:Type} {enc:U→AV} [cQ enc] {c c':Option Out} [Rw c' c] {k:U→Option Out} {k':U→Option T} [∀y,Im E (k' y) (k y)]:Im E (Option.bind (dec (EN enc) c') k') (pQ c fun r=>cD enc r k):=⟨by rw [Rw.e (a:=c') (b:=c)];exact Ik fun y=>Im.p (t:=k' y)⟩
end
end Go.AM
