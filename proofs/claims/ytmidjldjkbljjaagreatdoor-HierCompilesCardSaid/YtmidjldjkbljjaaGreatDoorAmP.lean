/- THE ABSTRACT MACHINE. -/
import Derived.Test.YtmidjldjkbljjaaGreatDoorAmL
set_option linter.unusedVariables false
namespace Go.AM
abbrev Out:Type:=AV×List (Nat×Ob)
noncomputable def dec {T:Type} (E:T→Out) (c:Option Out):Option T:=
 match c with
 |some r=>open Classical in if h:∃x,E x=r then some h.choose else none
 |none=>none
def cE {T:Type} (E:T→Out) (c:Option Out) (t:Option T):Prop:=∀x,t=some x→c=some (E x)
theorem aH {T:Type} (E:T→Out) (c:Option Out):cE E c (dec E c):=by
 intro x hx;cases c with
 |none=>simp [dec] at hx
 |some r=>
  simp only [dec] at hx;split at hx
  ·rename_i h
   have:=h.choose_spec;simp only [Option.some.injEq] at hx;rw [←hx,this]
  ·simp at hx
theorem sC {T:Type} {E:T→Out} [c6 E] {c:Option Out} {x:T} (h:c=some (E x)):dec E c=some x:=by
 subst h;have hx:∃y,E y=E x:=⟨x,rfl⟩
 simp only [dec,dif_pos hx];rw [c6.inj _ _ hx.choose_spec]
section
variable {T:Type} {E:T→Out}
theorem WA {c:Option Out}:cE E c none:=fun _ h=>by simp at h
theorem dD {c:Out} {x:T} (h:c=E x):cE E (some c) (some x):=by
 intro y hy;simp only [Option.some.injEq] at hy;subst hy;rw [h]
theorem br {c c':Bool} {a b:Option Out} {a' b':Option T} (hc:c=c') (h1:cE E a a') (h2:cE E b b'):cE E (bif c then a else b) (bif c' then a' else b'):=by
 subst hc;cases c
 ·exact h2
 ·exact h1
theorem Hv {R:Type} {p:Prop} [Decidable p] {a:Option R} {x:R} (h:check p a=some x):p∧a=some x:=by
 unfold check at h;split at h
 ·exact ⟨by assumption,h⟩
 ·simp at h
theorem Kh {R:Type} {p:Prop} [Decidable p] {a:Option R} (h:p):check p a=a:=by
 unfold check;rw [if_pos h]
theorem aN {p p':Prop} [Decidable p] [Decidable p'] {a:Option Out} {a':Option T} (hp:p'→p) (h:cE E a a'):cE E (check p a) (check p' a'):=by
 intro x hx;have:=Hv hx;rw [Kh (hp this.1)];exact h _ this.2
theorem PO {α β:Type} {enc:α→β} [c6 enc] {L:List β} {l:List α} {i:Int} {k:α→Option Out} {k':α→Option T} (hl:L=l.map enc) (h:∀x,cE E (k x) (k' x)):
  cE E (bl L i fun c=>fD enc c k) (bl l i k'):=by
 subst hl;intro x hx;unfold bl at hx⊢;split at hx
 ·rename_i h0
  rw [List.getElem?_map];cases e:l[i.toNat]? with
  |none=>rw [e] at hx;simp at hx
  |some y=>
   rw [e] at hx;simp only [Option.map_some,if_pos h0];rw [fu];exact h _ _ hx
 ·simp at hx
theorem Wz {α β:Type} {enc:α→β} [c6 enc] {L:List β} {l:List α} {i:Nat} {k:α→Option Out} {k':α→Option T} (hl:L=l.map enc) (h:∀x,cE E (k x) (k' x)):
  cE E (ic L i fun c=>fD enc c k) (ic l i k'):=by
 subst hl;intro x hx;unfold ic at hx⊢;rw [List.getElem?_map];cases e:l[i]? with
 |none=>rw [e] at hx;simp at hx
 |some y=>
  rw [e] at hx;simp only [Option.map_some];rw [fu];exact h _ _ hx
theorem Ms {α β:Type} {enc:α→β} [c6 enc] {L:List β} {l:List α} {i i':Int} {k:α→Option Out} {k':α→Option T} (hl:L=l.map enc) (hi:i=i') (h:∀x,cE E (k x) (k' x)):
  cE E (bl L i fun c=>fD enc c k) (bl l i' k'):=by
 subst hi;exact PO hl h
theorem JV {α:Type} {l:List α} {i:Int} {k:α→Option Out} {k':α→Option T} (h:∀x,cE E (k x) (k' x)):cE E (bl l i k) (bl l i k'):=by
 intro x hx;unfold bl at hx⊢;split at hx
 ·rename_i h0
  rw [if_pos h0];cases e:l[i.toNat]? with
  |none=>rw [e] at hx;simp at hx
  |some y=>rw [e] at hx;exact h _ _ hx
 ·simp at hx
theorem bind_some {α β:Type} {f:Option α} {k:α→Option β} {x:β} (h:Option.bind f k=some x):∃y,f=some y∧k y=some x:=by
 cases f with
 |none=>simp at h
 |some y=>exact ⟨y,rfl,h⟩
theorem E4 {U:Type} {enc:U→AV} [c6 enc] {E':U→Out} {c:Option Out} {f:Option U} {k:U→Option Out} {k':U→Option T} (hf:cE E' c f) (h:∀y,cE E (k y) (k' y)) (hE:∀y,E' y=(enc y,[]):=by intro _;rfl):
  cE E (rU c fun r=>fD enc r k) (Option.bind f k'):=by
 intro x hx;obtain ⟨y,h1,h2⟩:=bind_some hx;rw [hf _ h1,hE,Hp,fu];exact h _ _ h2
def rT {U V R:Type} (f:Option (U×V)) (k:U→V→Option R):Option R:=f.bind fun p=>k p.1 p.2
def Mx {U V W R:Type} (f:Option (U×V×W)) (k:U→V→W→Option R):Option R:=f.bind fun p=>k p.1 p.2.1 p.2.2
def Pe {U R:Type} (o:Option U) (k:U→Option R):Option R:=match o with
 |some x=>k x
 |none=>none
theorem yF {U R:Type} (x:U) (k:U→Option R):Pe (some x) k=k x:=rfl
def Hg {U0 U1 U2 U3 U4 R:Type} (f:Option (U0×U1×U2×U3×U4)) (k:U0→U1→U2→U3→U4→Option R):Option R:=f.bind fun p=>k p.1 p.2.1 p.2.2.1 p.2.2.2.1 p.2.2.2.2
theorem jO {U0 U1 U2 U3 U4 R:Type} (a0:U0) (a1:U1) (a2:U2) (a3:U3) (a4:U4) (k:U0→U1→U2→U3→U4→Option R):Hg (some (a0,a1,a2,a3,a4)) k=k a0 a1 a2 a3 a4:=rfl
theorem jN {U V R:Type} (a:U) (b:V) (k:U→V→Option R):rT (some (a,b)) k=k a b:=rfl
theorem AZ {U V W R:Type} (a:U) (b:V) (c:W) (k:U→V→W→Option R):Mx (some (a,b,c)) k=k a b c:=rfl
theorem tN {U V:Type} {enc:U→AV} [c6 enc] {ee:V→List AV} [c6 ee] {nm e sz:Nat} {E':U×List V→Out} {c:Option Out} {f:Option (U×List V)} {k:U→List V→Option Out} {k':U→List V→Option T}
  (hf:cE E' c f) (h:∀y xs,cE E (k y xs) (k' y xs)) (hE:∀y,E' y=(enc y.1,[(nm, .row e sz (y.2.map ee))]):=by intro _;rfl):
  cE E (zu c nm e sz fun r c2=>fD enc r fun y=>fD (List.map ee) c2 fun xs=>k y xs) (rT f k'):=by
 intro x hx;obtain ⟨y,h1,h2⟩:=bind_some hx;rw [hf _ h1,hE,zw,fu,fu];exact h _ _ _ h2
end
section
variable {α R:Type}
theorem bL {l:List α} {i:Nat} {x:α} {xs:List α} (h:l.drop i=x::xs):i<l.length:=by
 have:=congrArg List.length h;simp only [List.length_drop,List.length_cons] at this;omega
theorem dM {l:List α} {i:Nat} (h:l.drop i=[]):l.length≤i:=by
 have:=congrArg List.length h;simp only [List.length_drop,List.length_nil] at this;omega
theorem aW {l:List α} {i:Nat} {x:α} {xs:List α} (h:l.drop i=x::xs):l[i]? =some x:=by
 have:=congrArg (fun m=>m[0]?) h;simpa using this
theorem az {l:List α} {i:Nat} {x:α} {xs:List α} (h:l.drop i=x::xs):l.drop (i+1)=xs:=by
 have:=congrArg (List.drop 1) h;simpa [List.drop_drop,Nat.add_comm] using this
theorem aU {l:List α} {i:Nat} {x:α} {xs:List α} (h:l.drop i=x::xs):decide ((i:Int)<(l.length:Int))=true:=by
 have:=bL h;simp;omega
theorem aP {l:List α} {i:Nat} (h:l.drop i=[]):decide ((i:Int)<(l.length:Int))=false:=by
 have:=dM h;simp;omega
theorem aL {l:List α} {i:Nat} {x:α} {xs:List α} (h:l.drop i=x::xs) (k:α→Option R):bl l (i:Int) k=k x:=dQ (aW h) k
theorem js {l:List α} {i:Nat} {x:α} {xs:List α} (h:l.drop i=x::xs) (k:α→Option R):ic l (Int.toNat (i:Int)) k=k x:=by
 rw [Int.toNat_natCast];exact gv (aW h) k
theorem jv {l:List α} {i:Nat} {x:α} {xs:List α} (h:l.drop i=x::xs) (a:Option R):check (0≤(i:Int)∧Int.toNat (i:Int)<l.length) a=a:=
 aV ⟨by omega,by rw [Int.toNat_natCast];exact bL h⟩ a
theorem aM {l:List α} {i:Nat} {x:α} {xs:List α} (h:l.drop i=x::xs) (hl:l.length≤1073741824):IntKind.wrap .i64 ((i:Int)+1)=((i+1:Nat):Int):=
 bh (by have:=bL h;omega)
theorem cg {n m c:Nat} (a:Option R) (h:n≤1073741824) (hm:m≤1073741824) (hc:c≤1024):check ((n+m) *c≤140737488355328∧n+m≤4611686018427387904) a=a:=by
 refine aV ⟨?_,by omega⟩ a;have h1:(n+m) *c≤(n+m) *1024:=Nat.mul_le_mul_left _ hc;omega
theorem qQ {l:List α} {i:Nat} (h:i≤l.length) (a:Option R):check (0≤(i:Int)∧(i:Int)≤((l.length:Nat):Int)) a=a:=aV ⟨by omega,by omega⟩ a
theorem uk {n:Nat} (h:n≤1073741824):IntKind.wrap .i64 (((n+1:Nat):Int)-1)=(n:Int):=by
 rw [eC (by omega) (by omega)];omega
def bI (p:α→Bool):List α→Nat→Int
 |[],_=> -1
 |x::xs,i=>if p x then (i:Int) else bI p xs (i+1)
theorem ah {α β:Type} (a:α) (k:α→Option β):Option.bind (some a) k=k a:=rfl
theorem bG {l:List α} {i:Nat} (h:i<l.length) (k:α→Option R):bl l (i:Int) k=k l[i]:=dQ (List.getElem?_eq_getElem h) k
theorem mT {l:List α} {i:Nat} (h:i<l.length) (k:α→Option R):ic l i k=k l[i]:=gv (List.getElem?_eq_getElem h) k
theorem nH {l:List α} {i:Nat} (h:i<l.length) (a:Option R):check (0≤(i:Int)∧Int.toNat (i:Int)<l.length) a=a:=
 aV ⟨by omega,by rw [Int.toNat_natCast];exact h⟩ a
end
def EN {U:Type} (enc:U→AV):U→Out:=fun x=>(enc x,[])
instance {U:Type} {enc:U→AV} [c6 enc]:c6 (EN enc):=⟨fun a b h=>c6.inj _ _ (congrArg Prod.fst h)⟩
section
variable {T:Type} {E:T→Out}
theorem Is {x:T}:cE E (some (E x)) (some x):=dD rfl
theorem Iz {c:Option Out}:cE E c (dec E c):=aH _ _
theorem Ic {c:Bool} {a b:Option Out} {a' b':Option T} (h1:cE E a a') (h2:cE E b b'):cE E (bif c then a else b) (bif c then a' else b'):=br rfl h1 h2
theorem Ih {p:Prop} [Decidable p] {a:Option Out} {a':Option T} (h:cE E a a'):cE E (check p a) (check p a'):=aN id h
theorem Ig {α β:Type} (enc:α→β) [c6 enc] {l:List α} {i:Int} {k:α→Option Out} {k':α→Option T} (h:∀x,cE E (k x) (k' x)):cE E (bl (l.map enc) i fun c=>fD enc c k) (bl l i k'):=PO rfl h
theorem In {α β:Type} (enc:α→β) [c6 enc] {l:List α} {i:Nat} {k:α→Option Out} {k':α→Option T} (h:∀x,cE E (k x) (k' x)):cE E (ic (l.map enc) i fun c=>fD enc c k) (ic l i k'):=Wz rfl h
theorem Ik {U:Type} {enc:U→AV} [c6 enc] {c:Option Out} {k:U→Option Out} {k':U→Option T} (h:∀y,cE E (k y) (k' y)):cE E (rU c fun r=>fD enc r k) (Option.bind (dec (EN enc) c) k'):=E4 (aH _ _) h
end
theorem rX {T:Type} {E:T→Out} [c6 E] {raw body c:Option Out} {t:Option T} {r:T} (ht:t=some r) (hi:cE E raw t) (hk:body=raw) (h:∀{r:Out},body=some r→c=some r):dec E c=some r:=
 sC (h (hk.trans (hi _ ht)))
class xT (K:iE):Prop where
 is:∀a b:K.T,∃(inst:Decidable (a=b)),nQ (K.enc a) (K.enc b)=some (decide (a=b))
section
variable {R:Type}
noncomputable def jB {K V:Type} (l:List (K×V)) (key:K):Option Nat:=open Classical in l.findIdx? fun p=>decide (key=p.1)
noncomputable def ec {K V:Type} (l:List (K×V)) (key:K) (v:V):List (K×V):=match jB l key with
 |some i=>l.set i (key,v)
 |none=>l++[(key,v)]
noncomputable def getM {K V:Type} (l:List (K×V)) (key:K):Option V:=(jB l key).bind fun i=>(l[i]?).map (·.2)
noncomputable def iy {K V:Type} (l:List (K×V)) (key:K) (k:V→Option R) (z:Option R):Option R:=match getM l key with
 |some v=>k v
 |none=>z
noncomputable def Xg {K V:Type} (l:List (K×V)) (key:K) (k:Bool→Option R):Option R:=k (jB l key).isSome
def nT {α:Type} (x:α) (k:α→Option R):Option R:=k x
noncomputable def EW {K V:Type} (l:List (K×Option (List V))) (key:K) (k:List V→List (K×Option (List V))→Option R):Option R:=match jB l key with
 |some i=>match l[i]? with
  |some (q,some xs)=>k xs (l.set i (q,none))
  |_=>none
 |none=>k [] l
def allM {K V:Type}:List (K×Option V)→Option (List (K×V))
 |[]=>some []
 |(k,some v)::l=>(allM l).map ((k,v):: ·)
 |(_,none)::_=>none
def N8 {K V:Type} (l:List (K×Option V)) (k:List (K×V)→Option R):Option R:=match allM l with
 |some m=>k m
 |none=>none
def A5 (l:List Int) (k:List UInt8→Option R):Option R:=su (bytesOf (l.map (aB .u8))) k
end
theorem qv {K:iE} [xT K] {V:Type} (key:K.T):∀l:List (K.T×V),gG (K.enc key) (l.map fun p=>K.enc p.1)=some (jB l key):=by
 intro l
 induction l with
 |nil=>rfl
 |cons p l ih=>
  obtain ⟨inst,h⟩:=xT.is (K:=K) key p.1;rw [List.map_cons,gG,h];unfold jB;rw [List.findIdx?_cons];by_cases e:key=p.1
  ·simp [e]
  ·have:decide (key=p.1)=false:=by simpa using e
   rw [this];simp only [ih,Option.map_some,e,decide_false,Bool.false_eq_true,if_false];rfl
theorem wU {K V:Type} {l:List (K×V)} {key:K} {i:Nat} (h:jB l key=some i):∃hi:i<l.length,(l[i]'hi).1=key:=by
 unfold jB at h;rw [List.findIdx?_eq_some_iff_getElem] at h;obtain ⟨hi,h1,_⟩:=h;simp only [decide_eq_true_eq] at h1;exact ⟨hi,h1.symm⟩
theorem iH {K V:iE} [c6 K.enc] [c6 V.enc]:∀{a b:List (K.T×V.T)},(aO K V a).1=(aO K V b).1→(aO K V a).2=(aO K V b).2→a=b:=by
 intro a
 induction a with
 |nil=>intro b h _;cases b with
  |nil=>rfl
  |cons x b=>simp [aO] at h
 |cons x a ih=>intro b h h2;cases b with
  |nil=>simp [aO] at h
  |cons y b=>
   simp only [aO,List.map_cons,List.cons.injEq] at h h2;obtain ⟨x1,x2⟩:=x;obtain ⟨y1,y2⟩:=y;have e1:x1=y1:=c6.inj _ _ h.1;have e2:x2=y2:=c6.inj _ _ h2.1;rw [e1,e2,ih h.2 h2.2]
instance {K V:iE} [c6 K.enc] [c6 V.enc]:c6 (aO K V):=⟨fun a b h=>iH (congrArg Prod.fst h) (congrArg Prod.snd h)⟩
instance {U:Type} {enc:U→List AV} [c6 enc]:c6 (Ai enc):=⟨fun a b h=>by
 cases a<;>cases b<;>simp only [Ai,AV.ref.injEq,reduceCtorEq] at h
 ·rfl
 ·rw [c6.inj _ _ h]⟩
instance {K:iE} {E:Ad} [c6 K.enc] [c6 E.enc]:c6 (c8 K E):=⟨fun a b=>by
 induction a generalizing b with
 |nil=>intro h;cases b with
  |nil=>rfl
  |cons y b=>simp [c8] at h
 |cons x a ih=>intro h;cases b with
  |nil=>simp [c8] at h
  |cons y b=>
   simp only [c8,List.map_cons,Prod.mk.injEq,List.cons.injEq] at h;obtain ⟨⟨h1,h2⟩,h3,h4⟩:=h;obtain ⟨x1,x2⟩:=x;obtain ⟨y1,y2⟩:=y;have e2:x2=y2:=by
    cases x2<;>cases y2<;>simp only [Option.map_some,Option.map_none,Option.some.injEq,reduceCtorEq] at h3
    ·rfl
    ·rw [map_inj c6.inj _ _ h3]
   have e1:x1=y1:=c6.inj _ _ h1
   rw [e1,e2,ih b (by simp only [c8];rw [h2,h4])]⟩
theorem Tc {K V:iE} [xT K] (key:K.T) (l:List (K.T×V.T)):IL (K.enc key) (aO K V l).1 (aO K V l).2=some ((getM l key).map V.enc):=by
 unfold IL aO getM;rw [qv];cases h:jB l key with
 |none=>rfl
 |some i=>
  obtain ⟨hi,_⟩:=wU h;simp [List.getElem?_eq_getElem hi]
theorem Jm {K V:iE} {l:List (K.T×V.T)} {key:K.T} {v:V.T} {i:Nat} (h:jB l key=some i):aO K V (l.set i (key,v))=((aO K V l).1,(aO K V l).2.set i (V.enc v)):=by
 obtain ⟨hi,e⟩:=wU h;unfold aO;rw [Prod.mk.injEq];constructor
 ·rw [List.map_set]
  apply List.ext_getElem
  ·simp
  ·intro j h1 h2
   rw [List.getElem_set];split
   ·rename_i hj;subst hj;simp [e]
   ·rfl
 ·rw [List.map_set]
theorem Tg {K V:iE} [xT K] (key:K.T) (v:V.T) (l:List (K.T×V.T)):q9 (K.enc key) (V.enc v) (aO K V l).1 (aO K V l).2=some (aO K V (ec l key v)):=by
 have hf:gG (K.enc key) (aO K V l).1=some (jB l key):=qv key l;unfold q9 ec;rw [hf];cases h:jB l key with
 |none=>simp [aO]
 |some i=>simp only [Jm h]
theorem Ce {K:iE} {E:Ad} {l:List (K.T×Option (List E.T))} {i:Nat} {key:K.T} {v:Option (List E.T)} (hi:i<l.length) (e:(l[i]'hi).1=key):c8 K E (l.set i (key,v))=((c8 K E l).1,(c8 K E l).2.set i (v.map (List.map E.enc))):=by
 unfold c8;rw [Prod.mk.injEq];constructor
 ·rw [List.map_set]
  apply List.ext_getElem
  ·simp
  ·intro j h1 h2
   rw [List.getElem_set];split
   ·rename_i hj;subst hj;simp [e]
   ·rfl
 ·rw [List.map_set]
theorem OY {K:iE} {E:Ad} [xT K] (key:K.T) (xs:List E.T) (l:List (K.T×Option (List E.T))):q9 (K.enc key) (some (xs.map E.enc)) (c8 K E l).1 (c8 K E l).2=some (c8 K E (ec l key (some xs))):=by
 have hf:gG (K.enc key) (c8 K E l).1=some (jB l key):=qv key l;unfold q9 ec;rw [hf];cases h:jB l key with
 |none=>simp [c8]
 |some i=>
  obtain ⟨hi,e⟩:=wU h;simp only [Ce (v:=some xs) hi e,Option.map_some]
section
variable {T:Type} {E:T→Out}
theorem TV {L:List (List AV)} {l:List Int} {k:List UInt8→Option Out} {k':List UInt8→Option T} (hl:L=l.map (aB .u8)) (h:∀b,cE E (k b) (k' b)):cE E (su (bytesOf L) k) (A5 l k'):=by
 subst hl;intro x hx;unfold A5 at hx;cases e:bytesOf (l.map (aB .u8)) with
 |none=>rw [e] at hx;unfold su at hx;cases hx
 |some b=>rw [e] at hx;unfold su at hx⊢;exact h _ _ hx
theorem YX {K:iE} {C:Ad} [xT K] {l:List (K.T×Option (List C.T))} {key:K.T} {k:Bool→Option Out} {k':Bool→Option T} (h:∀b,cE E (k b) (k' b)):cE E (QZ (gG (K.enc key) (c8 K C l).1) k) (Xg l key k'):=by
 intro x hx;have hf:gG (K.enc key) (c8 K C l).1=some (jB l key):=qv key l;unfold QZ;rw [hf];exact h _ _ hx
theorem jk {K V:iE} [xT K] [c6 V.enc] {l:List (K.T×V.T)} {key:K.T} {k:V.T→Option Out} {k':V.T→Option T} {z:Option Out} {z':Option T} (h:∀y,cE E (k y) (k' y)) (hz:cE E z z'):
  cE E (BF (IL (K.enc key) (aO K V l).1 (aO K V l).2) (fun v=>fD V.enc v k) z) (iy l key k' z'):=by
 intro x hx;unfold iy at hx;unfold BF;rw [Tc];cases e:getM l key with
 |none=>rw [e] at hx;exact hz _ hx
 |some v=>rw [e] at hx;simp only [Option.map_some];rw [fu];exact h _ _ hx
theorem nD {K V:iE} [xT K] [c6 K.enc] [c6 V.enc] {l:List (K.T×V.T)} {key:K.T} {a:AV} {v:V.T} {k:List (K.T×V.T)→Option Out} {k':List (K.T×V.T)→Option T} (ha:a=V.enc v) (h:∀m,cE E (k m) (k' m)):
  cE E (I6 (q9 (K.enc key) a (aO K V l).1 (aO K V l).2) fun p=>fD (aO K V) p k) (nT (ec l key v) k'):=by
 subst ha;intro x hx;unfold I6;rw [Tg];simp only [fu];exact h _ _ hx
theorem JW {K:iE} {C:Ad} [xT K] [c6 K.enc] [c6 C.enc] {l:List (K.T×Option (List C.T))} {key:K.T} {L:List (List AV)} {xs:List C.T} {k:List (K.T×Option (List C.T))→Option Out} {k':List (K.T×Option (List C.T))→Option T} (ha:L=xs.map C.enc) (h:∀m,cE E (k m) (k' m)):
  cE E (EA (q9 (K.enc key) (some L) (c8 K C l).1 (c8 K C l).2) fun p=>fD (c8 K C) p k) (nT (ec l key (some xs)) k'):=by
 subst ha;intro x hx;unfold EA;rw [OY];simp only [fu];exact h _ _ hx
theorem PR {K:iE} {C:Ad} [xT K] [c6 K.enc] [c6 C.enc] {l:List (K.T×Option (List C.T))} {key:K.T} {k:List C.T→List (K.T×Option (List C.T))→Option Out} {k':List C.T→List (K.T×Option (List C.T))→Option T} (h:∀xs m,cE E (k xs m) (k' xs m)):
  cE E (JJ (FN (K.enc key) (c8 K C l).1 (c8 K C l).2) fun c c2=>fD (List.map C.enc) c fun xs=>fD (c8 K C) ((c8 K C l).1,c2) fun m=>k xs m) (EW l key k'):=by
 intro x hx;have hf:gG (K.enc key) (c8 K C l).1=some (jB l key):=qv key l;unfold EW at hx;unfold JJ FN;rw [hf];cases e:jB l key with
 |none=>
  rw [e] at hx;have e0:([]:List (List AV))=List.map C.enc []:=rfl;have e1:((c8 K C l).1,(c8 K C l).2)=c8 K C l:=rfl;simp only;rw [e0,fu,e1,fu];exact h _ _ _ hx
 |some i=>
  rw [e] at hx;obtain ⟨hi,hk⟩:=wU e;simp only at hx⊢;rw [List.getElem?_eq_getElem hi] at hx;have hv:(c8 K C l).2[i]? =some ((l[i]'hi).2.map (List.map C.enc)):=by simp [c8,List.getElem?_eq_getElem hi]
  rw [hv];cases e2:(l[i]'hi) with
  |mk q v=>
   rw [e2] at hx hk;cases v with
   |none=>simp at hx
   |some xs=>
    simp only at hx;simp only [Option.map_some];rw [fu];have e3:=Ce (K:=K) (E:=C) (l:=l) (key:=q) (v:=none) hi (by rw [e2]);simp only [Option.map_none] at e3;rw [←e3,fu];exact h _ _ _ hx
theorem PW {K:iE} {C:Ad} {V:iE} {sz:Nat} (en:List C.T→AV) (dc:List C.T→V.T) (hd:∀xs,V.enc (dc xs)=en xs) (hen:∀xs,en xs= .cm sz (xs.map C.enc)):∀(l:List (K.T×Option (List C.T))) {m:List (K.T×List C.T)},allM l=some m→
  ∃c,lM (c8 K C l).2=some c∧((c8 K C l).1,c.map (AV.cm sz))=aO K V (m.map fun p=>(p.1,dc p.2)):=by
 intro l
 induction l with
 |nil=>intro m h;simp only [allM,Option.some.injEq] at h;subst h;exact ⟨[],rfl,rfl⟩
 |cons p l ih=>
  intro m h;obtain ⟨q,v⟩:=p;cases v with
  |none=>simp [allM] at h
  |some xs=>
   simp only [allM,Option.map_eq_some_iff] at h;obtain ⟨m',hm',rfl⟩:=h;obtain ⟨c,hc,he⟩:=ih hm';refine ⟨xs.map C.enc::c,?_,?_⟩
   ·simp only [c8,List.map_cons,Option.map_some,lM] at hc⊢
    rw [hc];rfl
   ·simp only [c8,aO,List.map_cons,Prod.mk.injEq,List.cons.injEq] at he⊢
    exact ⟨⟨trivial,he.1⟩,by rw [hd,hen],he.2⟩
theorem Vf {K:iE} {C:Ad} {sz:Nat} [c6 K.enc] [c6 C.enc] {l:List (K.T×Option (List C.T))} {k:List (K.T×List C.T)→Option Out} {k':List (K.T×List C.T)→Option T} (h:∀m,cE E (k m) (k' m)):
  cE E (PV (lM (c8 K C l).2) fun c=>fD (aO K ⟨List C.T,fun x=> .cm sz (x.map C.enc)⟩) ((c8 K C l).1,c.map (AV.cm sz)) k) (N8 l k'):=by
 intro x hx;unfold N8 at hx;split at hx
 ·rename_i m hm
  obtain ⟨c,hc,he⟩:=PW (K:=K) (C:=C) (V:=⟨List C.T,fun x=> .cm sz (x.map C.enc)⟩) (sz:=sz) (fun xs=> .cm sz (xs.map C.enc)) (fun xs=>xs) (fun _=>rfl) (fun _=>rfl) l hm;unfold PV;rw [hc];simp only;have em:(m.map fun p=>(p.1,p.2))=m:=by simp
  rw [em] at he;have inj:c6 (aO K ⟨List C.T,fun x=> .cm sz (x.map C.enc)⟩):=by
   have:c6 (iE.mk (List C.T) fun x=>AV.cm sz (x.map C.enc)).enc:=⟨fun a b h=>by injection h with _ h;exact map_inj c6.inj _ _ h⟩
   exact ⟨fun a b h=> @iH K ⟨List C.T,fun x=> .cm sz (x.map C.enc)⟩ _ this a b (congrArg Prod.fst h) (congrArg Prod.snd h)⟩
  rw [he,fu];exact h _ _ hx
 ·cases hx
theorem gI {U:Type} {E':U→Out} {c:Option Out} {f:Option U} {kk:AV→List (Nat×Ob)→Option Out} {k':U→Option T} (hf:cE E' c f) (h:∀y,cE E (kk (E' y).1 (E' y).2) (k' y)):cE E (qg c kk) (Option.bind f k'):=by
 intro x hx;obtain ⟨y,h1,h2⟩:=bind_some hx;rw [hf _ h1];unfold qg;exact h _ _ h2
theorem PN {U V:Type} {E':U×V→Out} {c:Option Out} {f:Option (U×V)} {kk:AV→List (Nat×Ob)→Option Out} {k':U→V→Option T} (hf:cE E' c f) (h:∀y v,cE E (kk (E' (y,v)).1 (E' (y,v)).2) (k' y v)):cE E (qg c kk) (rT f k'):=
 gI hf fun p=>h p.1 p.2
theorem G9 {U V W:Type} {E':U×V×W→Out} {c:Option Out} {f:Option (U×V×W)} {kk:AV→List (Nat×Ob)→Option Out} {k':U→V→W→Option T} (hf:cE E' c f) (h:∀y v w,cE E (kk (E' (y,v,w)).1 (E' (y,v,w)).2) (k' y v w)):cE E (qg c kk) (Mx f k'):=
 gI hf fun p=>h p.1 p.2.1 p.2.2
theorem E5 {U:Type} {enc:U→List AV} [c6 enc] {o:Option U} {k:U→Option Out} {k':U→Option T} (h:∀x,cE E (k x) (k' x)):cE E (Tt (Ai enc o) fun cs=>fD enc cs k) (Pe o k'):=by
 intro x hx;cases o with
 |none=>simp [Pe] at hx
 |some y=>
  unfold Tt Ai;simp only;rw [fu];exact h _ _ hx
theorem AP {U0 U1 U2 U3 U4:Type} {E':U0×U1×U2×U3×U4→Out} {c:Option Out} {f:Option (U0×U1×U2×U3×U4)} {kk:AV→List (Nat×Ob)→Option Out} {k':U0→U1→U2→U3→U4→Option T} (hf:cE E' c f) (h:∀a0 a1 a2 a3 a4,cE E (kk (E' (a0,a1,a2,a3,a4)).1 (E' (a0,a1,a2,a3,a4)).2) (k' a0 a1 a2 a3 a4)):cE E (qg c kk) (Hg f k'):=
 gI hf fun p=>h p.1 p.2.1 p.2.2.1 p.2.2.2.1 p.2.2.2.2
theorem aY {nm:Nat} {o:Ob} {l:List (Nat×Ob)} {k:Ob→List (Nat×Ob)→Option Out} {t:Option T} (h:cE E (k o l) t):cE E (aS nm ((nm,o)::l) k) t:=by
 have:aS nm ((nm,o)::l) k=k o l:=by
  unfold aS;simp only [Nat.beq_refl,cond_true]
 rw [this];exact h
theorem kz {α:Type} {enc:α→List AV} [c6 enc] {e sz:Nat} {xs:List α} {k:List α→Option Out} {t:Option T} (h:cE E (k xs) t):cE E (gE e sz (.row e sz (xs.map enc)) fun c=>fD (List.map enc) c k) t:=by
 have:(gE e sz (.row e sz (xs.map enc)) fun c=>fD (List.map enc) c k)=fD (List.map enc) (List.map enc xs) k:=by
  unfold gE;simp only [Nat.beq_refl,Bool.and_self,cond_true]
 rw [this,fu];exact h
theorem tM {K V:iE} [c6 K.enc] [c6 V.enc] {kt et:Nat} {l:List (K.T×V.T)} {k:List (K.T×V.T)→Option Out} {t:Option T} (h:cE E (k l) t):cE E (nE kt et (.mp kt et (aO K V l).1 (aO K V l).2) fun c=>fD (aO K V) c k) t:=by
 have:(nE kt et (.mp kt et (aO K V l).1 (aO K V l).2) fun c=>fD (aO K V) c k)=fD (aO K V) (aO K V l) k:=by
  unfold nE;simp only [Nat.beq_refl,Bool.and_self,cond_true]
 rw [this,fu];exact h
theorem bY {o:Ob} {k:Option Out} {t:Option T} (h:cE E k t):cE E (ct o o k) t:=by
 unfold ct;rw [if_pos rfl];exact h
theorem kS {k:Option Out} {t:Option T} (h:cE E k t):cE E (kO [] k) t:=by
 unfold kO;exact h
theorem kT {U:Type} {enc:U→AV} [c6 enc] {y:U} {k:U→Option Out} {t:Option T} (h:cE E (k y) t):cE E (fD enc (enc y) k) t:=by rw [fu];exact h
end
end Go.AM
