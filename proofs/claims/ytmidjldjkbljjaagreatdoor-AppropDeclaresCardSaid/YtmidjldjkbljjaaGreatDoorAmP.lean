/- THE ABSTRACT MACHINE. -/
import Derived.Test.YtmidjldjkbljjaaGreatDoorAmL
set_option linter.unusedVariables false
namespace Go.AM
abbrev Out:Type:=AV×List (Nat×Ob)
noncomputable def dec {T:Type} (E:T→Out) (c:Option Out):Option T:=
 match c with
 |some r=>open Classical in if h:∃x,E x=r then some h.choose else none
 |none=>none
def cE {T:Type} (E:T→Out) (c:Option Out) (t:Option T):Prop:=∀x,t=some x→c=some (E x)
theorem aI {T:Type} (E:T→Out) (c:Option Out):cE E c (dec E c):=by
 intro x hx;cases c with
 |none=>simp [dec] at hx
 |some r=>
  simp only [dec] at hx;split at hx
  ·rename_i h
   have:=h.choose_spec;simp only [Option.some.injEq] at hx;rw [←hx,this]
  ·simp at hx
theorem rH {T:Type} {E:T→Out} [c4 E] {c:Option Out} {x:T} (h:c=some (E x)):dec E c=some x:=by
 subst h;have hx:∃y,E y=E x:=⟨x,rfl⟩
 simp only [dec,dif_pos hx];rw [c4.inj _ _ hx.choose_spec]
section
variable {T:Type} {E:T→Out}
theorem UC {c:Option Out}:cE E c none:=fun _ h=>by simp at h
theorem cZ {c:Out} {x:T} (h:c=E x):cE E (some c) (some x):=by
 intro y hy;simp only [Option.some.injEq] at hy;subst hy;rw [h]
theorem bw {c c':Bool} {a b:Option Out} {a' b':Option T} (hc:c=c') (h1:cE E a a') (h2:cE E b b'):cE E (bif c then a else b) (bif c' then a' else b'):=by
 subst hc;cases c
 ·exact h2
 ·exact h1
theorem Gb {R:Type} {p:Prop} [Decidable p] {a:Option R} {x:R} (h:check p a=some x):p∧a=some x:=by
 unfold check at h;split at h
 ·exact ⟨by assumption,h⟩
 ·simp at h
theorem Jf {R:Type} {p:Prop} [Decidable p] {a:Option R} (h:p):check p a=a:=by
 unfold check;rw [if_pos h]
theorem aJ {p p':Prop} [Decidable p] [Decidable p'] {a:Option Out} {a':Option T} (hp:p'→p) (h:cE E a a'):cE E (check p a) (check p' a'):=by
 intro x hx;have:=Gb hx;rw [Jf (hp this.1)];exact h _ this.2
theorem UA {α β:Type} {enc:α→β} [c4 enc] {L:List β} {l:List α} {i:Int} {k:α→Option Out} {k':α→Option T} (hl:L=l.map enc) (h:∀x,cE E (k x) (k' x)):
  cE E (bA L i fun c=>eZ enc c k) (bA l i k'):=by
 subst hl;intro x hx;unfold bA at hx⊢;split at hx
 ·rename_i h0
  rw [List.getElem?_map];cases e:l[i.toNat]? with
  |none=>rw [e] at hx;simp at hx
  |some y=>
   rw [e] at hx;simp only [Option.map_some,if_pos h0];rw [eV];exact h _ _ hx
 ·simp at hx
theorem UB {α β:Type} {enc:α→β} [c4 enc] {L:List β} {l:List α} {i:Nat} {k:α→Option Out} {k':α→Option T} (hl:L=l.map enc) (h:∀x,cE E (k x) (k' x)):
  cE E (fA L i fun c=>eZ enc c k) (fA l i k'):=by
 subst hl;intro x hx;unfold fA at hx⊢;rw [List.getElem?_map];cases e:l[i]? with
 |none=>rw [e] at hx;simp at hx
 |some y=>
  rw [e] at hx;simp only [Option.map_some];rw [eV];exact h _ _ hx
theorem IQ {α:Type} {l:List α} {i:Int} {k:α→Option Out} {k':α→Option T} (h:∀x,cE E (k x) (k' x)):cE E (bA l i k) (bA l i k'):=by
 intro x hx;unfold bA at hx⊢;split at hx
 ·rename_i h0
  rw [if_pos h0];cases e:l[i.toNat]? with
  |none=>rw [e] at hx;simp at hx
  |some y=>rw [e] at hx;exact h _ _ hx
 ·simp at hx
theorem bind_some {α β:Type} {f:Option α} {k:α→Option β} {x:β} (h:Option.bind f k=some x):∃y,f=some y∧k y=some x:=by
 cases f with
 |none=>simp at h
 |some y=>exact ⟨y,rfl,h⟩
theorem zQ {U:Type} {enc:U→AV} [c4 enc] {E':U→Out} {c:Option Out} {f:Option U} {k:U→Option Out} {k':U→Option T} (hf:cE E' c f) (h:∀y,cE E (k y) (k' y)) (hE:∀y,E' y=(enc y,[]):=by intro _;rfl):
  cE E (qX c fun r=>eZ enc r k) (Option.bind f k'):=by
 intro x hx;obtain ⟨y,h1,h2⟩:=bind_some hx;rw [hf _ h1,hE,F6,eV];exact h _ _ h2
def qW {U V R:Type} (f:Option (U×V)) (k:U→V→Option R):Option R:=f.bind fun p=>k p.1 p.2
def Lh {U V W R:Type} (f:Option (U×V×W)) (k:U→V→W→Option R):Option R:=f.bind fun p=>k p.1 p.2.1 p.2.2
def NL {U R:Type} (o:Option U) (k:U→Option R):Option R:=match o with
 |some x=>k x
 |none=>none
theorem xE {U R:Type} (x:U) (k:U→Option R):NL (some x) k=k x:=rfl
def FX {U0 U1 U2 U3 U4 R:Type} (f:Option (U0×U1×U2×U3×U4)) (k:U0→U1→U2→U3→U4→Option R):Option R:=f.bind fun p=>k p.1 p.2.1 p.2.2.1 p.2.2.2.1 p.2.2.2.2
theorem jK {U0 U1 U2 U3 U4 R:Type} (a0:U0) (a1:U1) (a2:U2) (a3:U3) (a4:U4) (k:U0→U1→U2→U3→U4→Option R):FX (some (a0,a1,a2,a3,a4)) k=k a0 a1 a2 a3 a4:=rfl
theorem jJ {U V R:Type} (a:U) (b:V) (k:U→V→Option R):qW (some (a,b)) k=k a b:=rfl
theorem z1 {U V W R:Type} (a:U) (b:V) (c:W) (k:U→V→W→Option R):Lh (some (a,b,c)) k=k a b c:=rfl
theorem sN {U V:Type} {enc:U→AV} [c4 enc] {ee:V→List AV} [c4 ee] {nm e sz:Nat} {E':U×List V→Out} {c:Option Out} {f:Option (U×List V)} {k:U→List V→Option Out} {k':U→List V→Option T}
  (hf:cE E' c f) (h:∀y xs,cE E (k y xs) (k' y xs)) (hE:∀y,E' y=(enc y.1,[(nm, .row e sz (y.2.map ee))]):=by intro _;rfl):
  cE E (yA c nm e sz fun r c2=>eZ enc r fun y=>eZ (List.map ee) c2 fun xs=>k y xs) (qW f k'):=by
 intro x hx;obtain ⟨y,h1,h2⟩:=bind_some hx;rw [hf _ h1,hE,yB,eV,eV];exact h _ _ _ h2
end
section
variable {α R:Type}
theorem bN {l:List α} {i:Nat} {x:α} {xs:List α} (h:l.drop i=x::xs):i<l.length:=by
 have:=congrArg List.length h;simp only [List.length_drop,List.length_cons] at this;omega
theorem dJ {l:List α} {i:Nat} (h:l.drop i=[]):l.length≤i:=by
 have:=congrArg List.length h;simp only [List.length_drop,List.length_nil] at this;omega
theorem aZ {l:List α} {i:Nat} {x:α} {xs:List α} (h:l.drop i=x::xs):l[i]? =some x:=by
 have:=congrArg (fun m=>m[0]?) h;simpa using this
theorem az {l:List α} {i:Nat} {x:α} {xs:List α} (h:l.drop i=x::xs):l.drop (i+1)=xs:=by
 have:=congrArg (List.drop 1) h;simpa [List.drop_drop,Nat.add_comm] using this
theorem aT {l:List α} {i:Nat} {x:α} {xs:List α} (h:l.drop i=x::xs):decide ((i:Int)<(l.length:Int))=true:=by
 have:=bN h;simp;omega
theorem aQ {l:List α} {i:Nat} (h:l.drop i=[]):decide ((i:Int)<(l.length:Int))=false:=by
 have:=dJ h;simp;omega
theorem aM {l:List α} {i:Nat} {x:α} {xs:List α} (h:l.drop i=x::xs) (k:α→Option R):bA l (i:Int) k=k x:=fI (aZ h) k
theorem j7 {l:List α} {i:Nat} {x:α} {xs:List α} (h:l.drop i=x::xs) (k:α→Option R):fA l (Int.toNat (i:Int)) k=k x:=by
 rw [Int.toNat_natCast];exact gp (aZ h) k
theorem kg {l:List α} {i:Nat} {x:α} {xs:List α} (h:l.drop i=x::xs) (a:Option R):check (0≤(i:Int)∧Int.toNat (i:Int)<l.length) a=a:=
 aU ⟨by omega,by rw [Int.toNat_natCast];exact bN h⟩ a
theorem aN {l:List α} {i:Nat} {x:α} {xs:List α} (h:l.drop i=x::xs) (hl:l.length≤1073741824):IntKind.wrap .i64 ((i:Int)+1)=((i+1:Nat):Int):=
 bl (by have:=bN h;omega)
theorem cF {n m c:Nat} (a:Option R) (h:n≤1073741824) (hm:m≤1073741824) (hc:c≤1024):check ((n+m) *c≤140737488355328∧n+m≤4611686018427387904) a=a:=by
 refine aU ⟨?_,by omega⟩ a;have h1:(n+m) *c≤(n+m) *1024:=Nat.mul_le_mul_left _ hc;omega
theorem qm {l:List α} {i:Nat} (h:i≤l.length) (a:Option R):check (0≤(i:Int)∧(i:Int)≤((l.length:Nat):Int)) a=a:=aU ⟨by omega,by omega⟩ a
theorem qe {n:Nat} (h:n≤1073741824):IntKind.wrap .i64 (((n+1:Nat):Int)-1)=(n:Int):=by
 rw [fF (by omega) (by omega)];omega
def bJ (p:α→Bool):List α→Nat→Int
 |[],_=> -1
 |x::xs,i=>if p x then (i:Int) else bJ p xs (i+1)
theorem ah {α β:Type} (a:α) (k:α→Option β):Option.bind (some a) k=k a:=rfl
theorem cu {l:List α} {i:Nat} (h:i<l.length) (k:α→Option R):bA l (i:Int) k=k l[i]:=fI (List.getElem?_eq_getElem h) k
theorem fU {l:List α} {i:Nat} (h:i<l.length) (k:α→Option R):fA l i k=k l[i]:=gp (List.getElem?_eq_getElem h) k
theorem jL {l:List α} {i:Nat} (h:i<l.length) (a:Option R):check (0≤(i:Int)∧Int.toNat (i:Int)<l.length) a=a:=
 aU ⟨by omega,by rw [Int.toNat_natCast];exact h⟩ a
end
def EN {U:Type} (enc:U→AV):U→Out:=fun x=>(enc x,[])
instance {U:Type} {enc:U→AV} [c4 enc]:c4 (EN enc):=⟨fun a b h=>c4.inj _ _ (congrArg Prod.fst h)⟩
section
variable {T:Type} {E:T→Out}
theorem Is {x:T}:cE E (some (E x)) (some x):=cZ rfl
theorem Iz {c:Option Out}:cE E c (dec E c):=aI _ _
theorem Ic {c:Bool} {a b:Option Out} {a' b':Option T} (h1:cE E a a') (h2:cE E b b'):cE E (bif c then a else b) (bif c then a' else b'):=bw rfl h1 h2
theorem Ih {p:Prop} [Decidable p] {a:Option Out} {a':Option T} (h:cE E a a'):cE E (check p a) (check p a'):=aJ id h
theorem Ig {α β:Type} (enc:α→β) [c4 enc] {l:List α} {i:Int} {k:α→Option Out} {k':α→Option T} (h:∀x,cE E (k x) (k' x)):cE E (bA (l.map enc) i fun c=>eZ enc c k) (bA l i k'):=UA rfl h
theorem In {α β:Type} (enc:α→β) [c4 enc] {l:List α} {i:Nat} {k:α→Option Out} {k':α→Option T} (h:∀x,cE E (k x) (k' x)):cE E (fA (l.map enc) i fun c=>eZ enc c k) (fA l i k'):=UB rfl h
theorem Ik {U:Type} {enc:U→AV} [c4 enc] {c:Option Out} {k:U→Option Out} {k':U→Option T} (h:∀y,cE E (k y) (k' y)):cE E (qX c fun r=>eZ enc r k) (Option.bind (dec (EN enc) c) k'):=zQ (aI _ _) h
end
theorem qZ {T:Type} {E:T→Out} [c4 E] {raw body c:Option Out} {t:Option T} {r:T} (ht:t=some r) (hi:cE E raw t) (hk:body=raw) (h:∀{r:Out},body=some r→c=some r):dec E c=some r:=
 rH (h (hk.trans (hi _ ht)))
class tW (K:gX):Prop where
 is:∀a b:K.T,∃(inst:Decidable (a=b)),nB (K.enc a) (K.enc b)=some (decide (a=b))
section
variable {R:Type}
noncomputable def iF {K V:Type} (l:List (K×V)) (key:K):Option Nat:=open Classical in l.findIdx? fun p=>decide (key=p.1)
noncomputable def dP {K V:Type} (l:List (K×V)) (key:K) (v:V):List (K×V):=match iF l key with
 |some i=>l.set i (key,v)
 |none=>l++[(key,v)]
noncomputable def wS {K V:Type} (l:List (K×V)) (key:K):List (K×V):=match iF l key with
 |some i=>l.eraseIdx i
 |none=>l
noncomputable def getM {K V:Type} (l:List (K×V)) (key:K):Option V:=(iF l key).bind fun i=>(l[i]?).map (·.2)
noncomputable def gu {K V:Type} (l:List (K×V)) (key:K) (k:V→Option R) (z:Option R):Option R:=match getM l key with
 |some v=>k v
 |none=>z
noncomputable def Vk {K V:Type} (l:List (K×V)) (key:K) (k:Bool→Option R):Option R:=k (iF l key).isSome
def lV {α:Type} (x:α) (k:α→Option R):Option R:=k x
noncomputable def DO {K V:Type} (l:List (K×Option (List V))) (key:K) (k:List V→List (K×Option (List V))→Option R):Option R:=match iF l key with
 |some i=>match l[i]? with
  |some (q,some xs)=>k xs (l.set i (q,none))
  |_=>none
 |none=>k [] l
def allM {K V:Type}:List (K×Option V)→Option (List (K×V))
 |[]=>some []
 |(k,some v)::l=>(allM l).map ((k,v):: ·)
 |(_,none)::_=>none
def MH {K V:Type} (l:List (K×Option V)) (k:List (K×V)→Option R):Option R:=match allM l with
 |some m=>k m
 |none=>none
def z7 (l:List Int) (k:List UInt8→Option R):Option R:=rF (bytesOf (l.map (aD .u8))) k
end
theorem mU {K:gX} [tW K] {V:Type} (key:K.T):∀l:List (K.T×V),gv (K.enc key) (l.map fun p=>K.enc p.1)=some (iF l key):=by
 intro l
 induction l with
 |nil=>rfl
 |cons p l ih=>
  obtain ⟨inst,h⟩:=tW.is (K:=K) key p.1;rw [List.map_cons,gv,h];unfold iF;rw [List.findIdx?_cons];by_cases e:key=p.1
  ·simp [e]
  ·have:decide (key=p.1)=false:=by simpa using e
   rw [this];simp only [ih,Option.map_some,e,decide_false,Bool.false_eq_true,if_false];rfl
theorem vK {K V:Type} {l:List (K×V)} {key:K} {i:Nat} (h:iF l key=some i):∃hi:i<l.length,(l[i]'hi).1=key:=by
 unfold iF at h;rw [List.findIdx?_eq_some_iff_getElem] at h;obtain ⟨hi,h1,_⟩:=h;simp only [decide_eq_true_eq] at h1;exact ⟨hi,h1.symm⟩
theorem iI {K V:gX} [c4 K.enc] [c4 V.enc]:∀{a b:List (K.T×V.T)},(aH K V a).1=(aH K V b).1→(aH K V a).2=(aH K V b).2→a=b:=by
 intro a
 induction a with
 |nil=>intro b h _;cases b with
  |nil=>rfl
  |cons x b=>simp [aH] at h
 |cons x a ih=>intro b h h2;cases b with
  |nil=>simp [aH] at h
  |cons y b=>
   simp only [aH,List.map_cons,List.cons.injEq] at h h2;obtain ⟨x1,x2⟩:=x;obtain ⟨y1,y2⟩:=y;have e1:x1=y1:=c4.inj _ _ h.1;have e2:x2=y2:=c4.inj _ _ h2.1;rw [e1,e2,ih h.2 h2.2]
instance {K V:gX} [c4 K.enc] [c4 V.enc]:c4 (aH K V):=⟨fun a b h=>iI (congrArg Prod.fst h) (congrArg Prod.snd h)⟩
instance {U:Type} {enc:U→List AV} [c4 enc]:c4 (zl enc):=⟨fun a b h=>by
 cases a<;>cases b<;>simp only [zl,AV.ref.injEq,reduceCtorEq] at h
 ·rfl
 ·rw [c4.inj _ _ h]⟩
instance {K:gX} {E:zf} [c4 K.enc] [c4 E.enc]:c4 (c5 K E):=⟨fun a b=>by
 induction a generalizing b with
 |nil=>intro h;cases b with
  |nil=>rfl
  |cons y b=>simp [c5] at h
 |cons x a ih=>intro h;cases b with
  |nil=>simp [c5] at h
  |cons y b=>
   simp only [c5,List.map_cons,Prod.mk.injEq,List.cons.injEq] at h;obtain ⟨⟨h1,h2⟩,h3,h4⟩:=h;obtain ⟨x1,x2⟩:=x;obtain ⟨y1,y2⟩:=y;have e2:x2=y2:=by
    cases x2<;>cases y2<;>simp only [Option.map_some,Option.map_none,Option.some.injEq,reduceCtorEq] at h3
    ·rfl
    ·rw [map_inj c4.inj _ _ h3]
   have e1:x1=y1:=c4.inj _ _ h1
   rw [e1,e2,ih b (by simp only [c5];rw [h2,h4])]⟩
theorem Rl {K V:gX} [tW K] (key:K.T) (l:List (K.T×V.T)):Hl (K.enc key) (aH K V l).1 (aH K V l).2=some ((getM l key).map V.enc):=by
 unfold Hl aH getM;rw [mU];cases h:iF l key with
 |none=>rfl
 |some i=>
  obtain ⟨hi,_⟩:=vK h;simp [List.getElem?_eq_getElem hi]
theorem HV {K V:gX} {l:List (K.T×V.T)} {key:K.T} {v:V.T} {i:Nat} (h:iF l key=some i):aH K V (l.set i (key,v))=((aH K V l).1,(aH K V l).2.set i (V.enc v)):=by
 obtain ⟨hi,e⟩:=vK h;unfold aH;rw [Prod.mk.injEq];constructor
 ·rw [List.map_set]
  apply List.ext_getElem
  ·simp
  ·intro j h1 h2
   rw [List.getElem_set];split
   ·rename_i hj;subst hj;simp [e]
   ·rfl
 ·rw [List.map_set]
theorem Rq {K V:gX} [tW K] (key:K.T) (v:V.T) (l:List (K.T×V.T)):qz (K.enc key) (V.enc v) (aH K V l).1 (aH K V l).2=some (aH K V (dP l key v)):=by
 have hf:gv (K.enc key) (aH K V l).1=some (iF l key):=mU key l;unfold qz dP;rw [hf];cases h:iF l key with
 |none=>simp [aH]
 |some i=>simp only [HV h]
theorem Rj {K V:gX} [tW K] (key:K.T) (l:List (K.T×V.T)):Ks (K.enc key) (aH K V l).1 (aH K V l).2=some (aH K V (wS l key)):=by
 have hf:gv (K.enc key) (aH K V l).1=some (iF l key):=mU key l;unfold Ks wS;rw [hf];cases h:iF l key with
 |none=>simp [aH]
 |some i=>simp only [aH,xk]
theorem Bl {K:gX} {E:zf} {l:List (K.T×Option (List E.T))} {i:Nat} {key:K.T} {v:Option (List E.T)} (hi:i<l.length) (e:(l[i]'hi).1=key):c5 K E (l.set i (key,v))=((c5 K E l).1,(c5 K E l).2.set i (v.map (List.map E.enc))):=by
 unfold c5;rw [Prod.mk.injEq];constructor
 ·rw [List.map_set]
  apply List.ext_getElem
  ·simp
  ·intro j h1 h2
   rw [List.getElem_set];split
   ·rename_i hj;subst hj;simp [e]
   ·rfl
 ·rw [List.map_set]
theorem Nv {K:gX} {E:zf} [tW K] (key:K.T) (xs:List E.T) (l:List (K.T×Option (List E.T))):qz (K.enc key) (some (xs.map E.enc)) (c5 K E l).1 (c5 K E l).2=some (c5 K E (dP l key (some xs))):=by
 have hf:gv (K.enc key) (c5 K E l).1=some (iF l key):=mU key l;unfold qz dP;rw [hf];cases h:iF l key with
 |none=>simp [c5]
 |some i=>
  obtain ⟨hi,e⟩:=vK h;simp only [Bl (v:=some xs) hi e,Option.map_some]
section
variable {T:Type} {E:T→Out}
theorem R4 {L:List (List AV)} {l:List Int} {k:List UInt8→Option Out} {k':List UInt8→Option T} (hl:L=l.map (aD .u8)) (h:∀b,cE E (k b) (k' b)):cE E (rF (bytesOf L) k) (z7 l k'):=by
 subst hl;intro x hx;unfold z7 at hx;cases e:bytesOf (l.map (aD .u8)) with
 |none=>rw [e] at hx;unfold rF at hx;cases hx
 |some b=>rw [e] at hx;unfold rF at hx⊢;exact h _ _ hx
theorem W5 {K:gX} {C:zf} [tW K] {l:List (K.T×Option (List C.T))} {key:K.T} {k:Bool→Option Out} {k':Bool→Option T} (h:∀b,cE E (k b) (k' b)):cE E (Pj (gv (K.enc key) (c5 K C l).1) k) (Vk l key k'):=by
 intro x hx;have hf:gv (K.enc key) (c5 K C l).1=some (iF l key):=mU key l;unfold Pj;rw [hf];exact h _ _ hx
theorem gY {K V:gX} [tW K] [c4 V.enc] {l:List (K.T×V.T)} {key:K.T} {k:V.T→Option Out} {k':V.T→Option T} {z:Option Out} {z':Option T} (h:∀y,cE E (k y) (k' y)) (hz:cE E z z'):
  cE E (AK (Hl (K.enc key) (aH K V l).1 (aH K V l).2) (fun v=>eZ V.enc v k) z) (gu l key k' z'):=by
 intro x hx;unfold gu at hx;unfold AK;rw [Rl];cases e:getM l key with
 |none=>rw [e] at hx;exact hz _ hx
 |some v=>rw [e] at hx;simp only [Option.map_some];rw [eV];exact h _ _ hx
theorem mB {K V:gX} [tW K] [c4 K.enc] [c4 V.enc] {l:List (K.T×V.T)} {key:K.T} {a:AV} {v:V.T} {k:List (K.T×V.T)→Option Out} {k':List (K.T×V.T)→Option T} (ha:a=V.enc v) (h:∀m,cE E (k m) (k' m)):
  cE E (A6 (qz (K.enc key) a (aH K V l).1 (aH K V l).2) fun p=>eZ (aH K V) p k) (lV (dP l key v) k'):=by
 subst ha;intro x hx;unfold A6;rw [Rq];simp only [eV];exact h _ _ hx
theorem IS {K:gX} {C:zf} [tW K] [c4 K.enc] [c4 C.enc] {l:List (K.T×Option (List C.T))} {key:K.T} {L:List (List AV)} {xs:List C.T} {k:List (K.T×Option (List C.T))→Option Out} {k':List (K.T×Option (List C.T))→Option T} (ha:L=xs.map C.enc) (h:∀m,cE E (k m) (k' m)):
  cE E (Du (qz (K.enc key) (some L) (c5 K C l).1 (c5 K C l).2) fun p=>eZ (c5 K C) p k) (lV (dP l key (some xs)) k'):=by
 subst ha;intro x hx;unfold Du;rw [Nv];simp only [eV];exact h _ _ hx
theorem Oa {K:gX} {C:zf} [tW K] [c4 K.enc] [c4 C.enc] {l:List (K.T×Option (List C.T))} {key:K.T} {k:List C.T→List (K.T×Option (List C.T))→Option Out} {k':List C.T→List (K.T×Option (List C.T))→Option T} (h:∀xs m,cE E (k xs m) (k' xs m)):
  cE E (Ix (EE (K.enc key) (c5 K C l).1 (c5 K C l).2) fun c c2=>eZ (List.map C.enc) c fun xs=>eZ (c5 K C) ((c5 K C l).1,c2) fun m=>k xs m) (DO l key k'):=by
 intro x hx;have hf:gv (K.enc key) (c5 K C l).1=some (iF l key):=mU key l;unfold DO at hx;unfold Ix EE;rw [hf];cases e:iF l key with
 |none=>
  rw [e] at hx;have e0:([]:List (List AV))=List.map C.enc []:=rfl;have e1:((c5 K C l).1,(c5 K C l).2)=c5 K C l:=rfl;simp only;rw [e0,eV,e1,eV];exact h _ _ _ hx
 |some i=>
  rw [e] at hx;obtain ⟨hi,hk⟩:=vK e;simp only at hx⊢;rw [List.getElem?_eq_getElem hi] at hx;have hv:(c5 K C l).2[i]? =some ((l[i]'hi).2.map (List.map C.enc)):=by simp [c5,List.getElem?_eq_getElem hi]
  rw [hv];cases e2:(l[i]'hi) with
  |mk q v=>
   rw [e2] at hx hk;cases v with
   |none=>simp at hx
   |some xs=>
    simp only at hx;simp only [Option.map_some];rw [eV];have e3:=Bl (K:=K) (E:=C) (l:=l) (key:=q) (v:=none) hi (by rw [e2]);simp only [Option.map_none] at e3;rw [←e3,eV];exact h _ _ _ hx
theorem Oh {K:gX} {C:zf} {V:gX} {sz:Nat} (en:List C.T→AV) (dc:List C.T→V.T) (hd:∀xs,V.enc (dc xs)=en xs) (hen:∀xs,en xs= .bS sz (xs.map C.enc)):∀(l:List (K.T×Option (List C.T))) {m:List (K.T×List C.T)},allM l=some m→
  ∃c,lC (c5 K C l).2=some c∧((c5 K C l).1,c.map (AV.bS sz))=aH K V (m.map fun p=>(p.1,dc p.2)):=by
 intro l
 induction l with
 |nil=>intro m h;simp only [allM,Option.some.injEq] at h;subst h;exact ⟨[],rfl,rfl⟩
 |cons p l ih=>
  intro m h;obtain ⟨q,v⟩:=p;cases v with
  |none=>simp [allM] at h
  |some xs=>
   simp only [allM,Option.map_eq_some_iff] at h;obtain ⟨m',hm',rfl⟩:=h;obtain ⟨c,hc,he⟩:=ih hm';refine ⟨xs.map C.enc::c,?_,?_⟩
   ·simp only [c5,List.map_cons,Option.map_some,lC] at hc⊢
    rw [hc];rfl
   ·simp only [c5,aH,List.map_cons,Prod.mk.injEq,List.cons.injEq] at he⊢
    exact ⟨⟨trivial,he.1⟩,by rw [hd,hen],he.2⟩
theorem Ts {K:gX} {C:zf} {sz:Nat} [c4 K.enc] [c4 C.enc] {l:List (K.T×Option (List C.T))} {k:List (K.T×List C.T)→Option Out} {k':List (K.T×List C.T)→Option T} (h:∀m,cE E (k m) (k' m)):
  cE E (Og (lC (c5 K C l).2) fun c=>eZ (aH K ⟨List C.T,fun x=> .bS sz (x.map C.enc)⟩) ((c5 K C l).1,c.map (AV.bS sz)) k) (MH l k'):=by
 intro x hx;unfold MH at hx;split at hx
 ·rename_i m hm
  obtain ⟨c,hc,he⟩:=Oh (K:=K) (C:=C) (V:=⟨List C.T,fun x=> .bS sz (x.map C.enc)⟩) (sz:=sz) (fun xs=> .bS sz (xs.map C.enc)) (fun xs=>xs) (fun _=>rfl) (fun _=>rfl) l hm;unfold Og;rw [hc];simp only;have em:(m.map fun p=>(p.1,p.2))=m:=by simp
  rw [em] at he;have inj:c4 (aH K ⟨List C.T,fun x=> .bS sz (x.map C.enc)⟩):=by
   have:c4 (gX.mk (List C.T) fun x=>AV.bS sz (x.map C.enc)).enc:=⟨fun a b h=>by injection h with _ h;exact map_inj c4.inj _ _ h⟩
   exact ⟨fun a b h=> @iI K ⟨List C.T,fun x=> .bS sz (x.map C.enc)⟩ _ this a b (congrArg Prod.fst h) (congrArg Prod.snd h)⟩
  rw [he,eV];exact h _ _ hx
 ·cases hx
theorem fo {U:Type} {E':U→Out} {c:Option Out} {f:Option U} {kk:AV→List (Nat×Ob)→Option Out} {k':U→Option T} (hf:cE E' c f) (h:∀y,cE E (kk (E' y).1 (E' y).2) (k' y)):cE E (pn c kk) (Option.bind f k'):=by
 intro x hx;obtain ⟨y,h1,h2⟩:=bind_some hx;rw [hf _ h1];unfold pn;exact h _ _ h2
theorem N9 {U V:Type} {E':U×V→Out} {c:Option Out} {f:Option (U×V)} {kk:AV→List (Nat×Ob)→Option Out} {k':U→V→Option T} (hf:cE E' c f) (h:∀y v,cE E (kk (E' (y,v)).1 (E' (y,v)).2) (k' y v)):cE E (pn c kk) (qW f k'):=
 fo hf fun p=>h p.1 p.2
theorem FU {U V W:Type} {E':U×V×W→Out} {c:Option Out} {f:Option (U×V×W)} {kk:AV→List (Nat×Ob)→Option Out} {k':U→V→W→Option T} (hf:cE E' c f) (h:∀y v w,cE E (kk (E' (y,v,w)).1 (E' (y,v,w)).2) (k' y v w)):cE E (pn c kk) (Lh f k'):=
 fo hf fun p=>h p.1 p.2.1 p.2.2
theorem DU {U:Type} {enc:U→List AV} [c4 enc] {o:Option U} {k:U→Option Out} {k':U→Option T} (h:∀x,cE E (k x) (k' x)):cE E (RA (zl enc o) fun cs=>eZ enc cs k) (NL o k'):=by
 intro x hx;cases o with
 |none=>simp [NL] at hx
 |some y=>
  unfold RA zl;simp only;rw [eV];exact h _ _ hx
theorem W4 {K V:gX} [tW K] [c4 K.enc] [c4 V.enc] {l:List (K.T×V.T)} {key:K.T} {k:List (K.T×V.T)→Option Out} {k':List (K.T×V.T)→Option T} (h:∀m,cE E (k m) (k' m)):
  cE E (A6 (Ks (K.enc key) (aH K V l).1 (aH K V l).2) fun p=>eZ (aH K V) p k) (lV (wS l key) k'):=by
 intro x hx;unfold A6;rw [Rj];simp only [eV];exact h _ _ hx
theorem zR {U0 U1 U2 U3 U4:Type} {E':U0×U1×U2×U3×U4→Out} {c:Option Out} {f:Option (U0×U1×U2×U3×U4)} {kk:AV→List (Nat×Ob)→Option Out} {k':U0→U1→U2→U3→U4→Option T} (hf:cE E' c f) (h:∀a0 a1 a2 a3 a4,cE E (kk (E' (a0,a1,a2,a3,a4)).1 (E' (a0,a1,a2,a3,a4)).2) (k' a0 a1 a2 a3 a4)):cE E (pn c kk) (FX f k'):=
 fo hf fun p=>h p.1 p.2.1 p.2.2.1 p.2.2.2.1 p.2.2.2.2
theorem aR {nm:Nat} {o:Ob} {l:List (Nat×Ob)} {k:Ob→List (Nat×Ob)→Option Out} {t:Option T} (h:cE E (k o l) t):cE E (aP nm ((nm,o)::l) k) t:=by
 have:aP nm ((nm,o)::l) k=k o l:=by
  unfold aP;simp only [Nat.beq_refl,cond_true]
 rw [this];exact h
theorem j5 {α:Type} {enc:α→List AV} [c4 enc] {e sz:Nat} {xs:List α} {k:List α→Option Out} {t:Option T} (h:cE E (k xs) t):cE E (gD e sz (.row e sz (xs.map enc)) fun c=>eZ (List.map enc) c k) t:=by
 have:(gD e sz (.row e sz (xs.map enc)) fun c=>eZ (List.map enc) c k)=eZ (List.map enc) (List.map enc xs) k:=by
  unfold gD;simp only [Nat.beq_refl,Bool.and_self,cond_true]
 rw [this,eV];exact h
theorem sM {K V:gX} [c4 K.enc] [c4 V.enc] {kt et:Nat} {l:List (K.T×V.T)} {k:List (K.T×V.T)→Option Out} {t:Option T} (h:cE E (k l) t):cE E (nj kt et (.mp kt et (aH K V l).1 (aH K V l).2) fun c=>eZ (aH K V) c k) t:=by
 have:(nj kt et (.mp kt et (aH K V l).1 (aH K V l).2) fun c=>eZ (aH K V) c k)=eZ (aH K V) (aH K V l) k:=by
  unfold nj;simp only [Nat.beq_refl,Bool.and_self,cond_true]
 rw [this,eV];exact h
theorem bP {o:Ob} {k:Option Out} {t:Option T} (h:cE E k t):cE E (bX o o k) t:=by
 unfold bX;rw [if_pos rfl];exact h
theorem jm {k:Option Out} {t:Option T} (h:cE E k t):cE E (jO [] k) t:=by
 unfold jO;exact h
theorem jo {U:Type} {enc:U→AV} [c4 enc] {y:U} {k:U→Option Out} {t:Option T} (h:cE E (k y) t):cE E (eZ enc (enc y) k) t:=by rw [eV];exact h
end
end Go.AM
