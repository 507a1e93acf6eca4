/- THE ABSTRACT MACHINE. -/
import Derived.Test.YtfoddgpndoeeaaaGreatDoorAmL
set_option linter.unusedVariables false
namespace Go.AM
abbrev Out:Type:=AV×List (Nat×Ob)
noncomputable def dec {T:Type} (E:T→Out) (c:Option Out):Option T:=
 match c with
 |some r=>open Classical in if h:∃x,E x=r then some h.choose else none
 |none=>none
def cO {T:Type} (E:T→Out) (c:Option Out) (t:Option T):Prop:=∀x,t=some x→c=some (E x)
theorem aP {T:Type} (E:T→Out) (c:Option Out):cO E c (dec E c):=by
 intro x hx;cases c with
 |none=>simp [dec] at hx
 |some r=>
  simp only [dec] at hx;split at hx
  ·rename_i h
   have:=h.choose_spec;simp only [Option.some.injEq] at hx;rw [←hx,this]
  ·simp at hx
theorem nP {T:Type} {E:T→Out} [c4 E] {c:Option Out} {x:T} (h:c=some (E x)):dec E c=some x:=by
 subst h;have hx:∃y,E y=E x:=⟨x,rfl⟩
 simp only [dec,dif_pos hx];rw [c4.inj _ _ hx.choose_spec]
section
variable {T:Type} {E:T→Out}
theorem R8 {c:Option Out}:cO E c none:=fun _ h=>by simp at h
theorem dI {c:Out} {x:T} (h:c=E x):cO E (some c) (some x):=by
 intro y hy;simp only [Option.some.injEq] at hy;subst hy;rw [h]
theorem eL {c c':Bool} {a b:Option Out} {a' b':Option T} (hc:c=c') (h1:cO E a a') (h2:cO E b b'):cO E (bif c then a else b) (bif c' then a' else b'):=by
 subst hc;cases c
 ·exact h2
 ·exact h1
theorem EY {R:Type} {p:Prop} [Decidable p] {a:Option R} {x:R} (h:check p a=some x):p∧a=some x:=by
 unfold check at h;split at h
 ·exact ⟨by assumption,h⟩
 ·simp at h
theorem Hx {R:Type} {p:Prop} [Decidable p] {a:Option R} (h:p):check p a=a:=by
 unfold check;rw [if_pos h]
theorem bq {p p':Prop} [Decidable p] [Decidable p'] {a:Option Out} {a':Option T} (hp:p'→p) (h:cO E a a'):cO E (check p a) (check p' a'):=by
 intro x hx;have:=EY hx;rw [Hx (hp this.1)];exact h _ this.2
theorem R7 {α β:Type} {enc:α→β} [c4 enc] {L:List β} {l:List α} {i:Int} {k:α→Option Out} {k':α→Option T} (hl:L=l.map enc) (h:∀x,cO E (k x) (k' x)):
  cO E (cM L i fun c=>eS enc c k) (cM l i k'):=by
 subst hl;intro x hx;unfold cM at hx⊢;split at hx
 ·rename_i h0
  rw [List.getElem?_map];cases e:l[i.toNat]? with
  |none=>rw [e] at hx;simp at hx
  |some y=>
   rw [e] at hx;simp only [Option.map_some,if_pos h0];rw [dX];exact h _ _ hx
 ·simp at hx
theorem Mh {α β:Type} {enc:α→β} [c4 enc] {L:List β} {l:List α} {i:Nat} {k:α→Option Out} {k':α→Option T} (hl:L=l.map enc) (h:∀x,cO E (k x) (k' x)):
  cO E (kg L i fun c=>eS enc c k) (kg l i k'):=by
 subst hl;intro x hx;unfold kg at hx⊢;rw [List.getElem?_map];cases e:l[i]? with
 |none=>rw [e] at hx;simp at hx
 |some y=>
  rw [e] at hx;simp only [Option.map_some];rw [dX];exact h _ _ hx
theorem bind_some {α β:Type} {f:Option α} {k:α→Option β} {x:β} (h:Option.bind f k=some x):∃y,f=some y∧k y=some x:=by
 cases f with
 |none=>simp at h
 |some y=>exact ⟨y,rfl,h⟩
theorem yF {U:Type} {enc:U→AV} [c4 enc] {E':U→Out} {c:Option Out} {f:Option U} {k:U→Option Out} {k':U→Option T} (hf:cO E' c f) (h:∀y,cO E (k y) (k' y)) (hE:∀y,E' y=(enc y,[]):=by intro _;rfl):
  cO E (nK c fun r=>eS enc r k) (Option.bind f k'):=by
 intro x hx;obtain ⟨y,h1,h2⟩:=bind_some hx;rw [hf _ h1,hE,ES,dX];exact h _ _ h2
def qj {U V R:Type} (f:Option (U×V)) (k:U→V→Option R):Option R:=f.bind fun p=>k p.1 p.2
def JQ {U V W R:Type} (f:Option (U×V×W)) (k:U→V→W→Option R):Option R:=f.bind fun p=>k p.1 p.2.1 p.2.2
def LS {U R:Type} (o:Option U) (k:U→Option R):Option R:=match o with
 |some x=>k x
 |none=>none
theorem wg {U R:Type} (x:U) (k:U→Option R):LS (some x) k=k x:=rfl
def EK {U0 U1 U2 U3 U4 R:Type} (f:Option (U0×U1×U2×U3×U4)) (k:U0→U1→U2→U3→U4→Option R):Option R:=f.bind fun p=>k p.1 p.2.1 p.2.2.1 p.2.2.2.1 p.2.2.2.2
theorem jq {U0 U1 U2 U3 U4 R:Type} (a0:U0) (a1:U1) (a2:U2) (a3:U3) (a4:U4) (k:U0→U1→U2→U3→U4→Option R):EK (some (a0,a1,a2,a3,a4)) k=k a0 a1 a2 a3 a4:=rfl
theorem jo {U V R:Type} (a:U) (b:V) (k:U→V→Option R):qj (some (a,b)) k=k a b:=rfl
theorem yK {U V W R:Type} (a:U) (b:V) (c:W) (k:U→V→W→Option R):JQ (some (a,b,c)) k=k a b c:=rfl
theorem rQ {U V:Type} {enc:U→AV} [c4 enc] {ee:V→List AV} [c4 ee] {nm e sz:Nat} {E':U×List V→Out} {c:Option Out} {f:Option (U×List V)} {k:U→List V→Option Out} {k':U→List V→Option T}
  (hf:cO E' c f) (h:∀y xs,cO E (k y xs) (k' y xs)) (hE:∀y,E' y=(enc y.1,[(nm, .row e sz (y.2.map ee))]):=by intro _;rfl):
  cO E (wX c nm e sz fun r c2=>eS enc r fun y=>eS (List.map ee) c2 fun xs=>k y xs) (qj f k'):=by
 intro x hx;obtain ⟨y,h1,h2⟩:=bind_some hx;rw [hf _ h1,hE,wY,dX,dX];exact h _ _ _ h2
end
section
variable {α R:Type}
theorem cW {l:List α} {i:Nat} {x:α} {xs:List α} (h:l.drop i=x::xs):i<l.length:=by
 have:=congrArg List.length h;simp only [List.length_drop,List.length_cons] at this;omega
theorem eG {l:List α} {i:Nat} (h:l.drop i=[]):l.length≤i:=by
 have:=congrArg List.length h;simp only [List.length_drop,List.length_nil] at this;omega
theorem bU {l:List α} {i:Nat} {x:α} {xs:List α} (h:l.drop i=x::xs):l[i]? =some x:=by
 have:=congrArg (fun m=>m[0]?) h;simpa using this
theorem bf {l:List α} {i:Nat} {x:α} {xs:List α} (h:l.drop i=x::xs):l.drop (i+1)=xs:=by
 have:=congrArg (List.drop 1) h;simpa [List.drop_drop,Nat.add_comm] using this
theorem bR {l:List α} {i:Nat} {x:α} {xs:List α} (h:l.drop i=x::xs):decide ((i:Int)<(l.length:Int))=true:=by
 have:=cW h;simp;omega
theorem bS {l:List α} {i:Nat} (h:l.drop i=[]):decide ((i:Int)<(l.length:Int))=false:=by
 have:=eG h;simp;omega
theorem bW {l:List α} {i:Nat} {x:α} {xs:List α} (h:l.drop i=x::xs) (k:α→Option R):cM l (i:Int) k=k x:=jQ (bU h) k
theorem mg {l:List α} {i:Nat} {x:α} {xs:List α} (h:l.drop i=x::xs) (k:α→Option R):kg l (Int.toNat (i:Int)) k=k x:=by
 rw [Int.toNat_natCast];exact k8 (bU h) k
theorem mj {l:List α} {i:Nat} {x:α} {xs:List α} (h:l.drop i=x::xs) (a:Option R):check (0≤(i:Int)∧Int.toNat (i:Int)<l.length) a=a:=
 bg ⟨by omega,by rw [Int.toNat_natCast];exact cW h⟩ a
theorem bB {l:List α} {i:Nat} {x:α} {xs:List α} (h:l.drop i=x::xs) (hl:l.length≤1073741824):IntKind.wrap .i64 ((i:Int)+1)=((i+1:Nat):Int):=
 cg (by have:=cW h;omega)
theorem eo {n m c:Nat} (a:Option R) (h:n≤1073741824) (hm:m≤1073741824) (hc:c≤1024):check ((n+m) *c≤140737488355328∧n+m≤4611686018427387904) a=a:=by
 refine bg ⟨?_,by omega⟩ a;have h1:(n+m) *c≤(n+m) *1024:=Nat.mul_le_mul_left _ hc;omega
theorem JS {l:List α} {i:Nat} (h:i≤l.length) (a:Option R):check (0≤(i:Int)∧(i:Int)≤((l.length:Nat):Int)) a=a:=bg ⟨by omega,by omega⟩ a
theorem Cv {n:Nat} (h:n≤1073741824):IntKind.wrap .i64 (((n+1:Nat):Int)-1)=(n:Int):=by
 rw [fo (by omega) (by omega)];omega
def bX (p:α→Bool):List α→Nat→Int
 |[],_=> -1
 |x::xs,i=>if p x then (i:Int) else bX p xs (i+1)
theorem aj {α β:Type} (a:α) (k:α→Option β):Option.bind (some a) k=k a:=rfl
theorem fR {l:List α} {i:Nat} (h:i<l.length) (k:α→Option R):cM l (i:Int) k=k l[i]:=jQ (List.getElem?_eq_getElem h) k
theorem mQ {l:List α} {i:Nat} (h:i<l.length) (k:α→Option R):kg l i k=k l[i]:=k8 (List.getElem?_eq_getElem h) k
theorem qH {l:List α} {i:Nat} (h:i<l.length) (a:Option R):check (0≤(i:Int)∧Int.toNat (i:Int)<l.length) a=a:=
 bg ⟨by omega,by rw [Int.toNat_natCast];exact h⟩ a
end
def EN {U:Type} (enc:U→AV):U→Out:=fun x=>(enc x,[])
instance {U:Type} {enc:U→AV} [c4 enc]:c4 (EN enc):=⟨fun a b h=>c4.inj _ _ (congrArg Prod.fst h)⟩
section
variable {T:Type} {E:T→Out}
theorem Is {x:T}:cO E (some (E x)) (some x):=dI rfl
theorem Iz {c:Option Out}:cO E c (dec E c):=aP _ _
theorem Ic {c:Bool} {a b:Option Out} {a' b':Option T} (h1:cO E a a') (h2:cO E b b'):cO E (bif c then a else b) (bif c then a' else b'):=eL rfl h1 h2
theorem Ih {p:Prop} [Decidable p] {a:Option Out} {a':Option T} (h:cO E a a'):cO E (check p a) (check p a'):=bq id h
theorem Ig {α β:Type} (enc:α→β) [c4 enc] {l:List α} {i:Int} {k:α→Option Out} {k':α→Option T} (h:∀x,cO E (k x) (k' x)):cO E (cM (l.map enc) i fun c=>eS enc c k) (cM l i k'):=R7 rfl h
theorem In {α β:Type} (enc:α→β) [c4 enc] {l:List α} {i:Nat} {k:α→Option Out} {k':α→Option T} (h:∀x,cO E (k x) (k' x)):cO E (kg (l.map enc) i fun c=>eS enc c k) (kg l i k'):=Mh rfl h
theorem Ik {U:Type} {enc:U→AV} [c4 enc] {c:Option Out} {k:U→Option Out} {k':U→Option T} (h:∀y,cO E (k y) (k' y)):cO E (nK c fun r=>eS enc r k) (Option.bind (dec (EN enc) c) k'):=yF (aP _ _) h
end
theorem ql {T:Type} {E:T→Out} [c4 E] {raw body c:Option Out} {t:Option T} {r:T} (ht:t=some r) (hi:cO E raw t) (hk:body=raw) (h:∀{r:Out},body=some r→c=some r):dec E c=some r:=
 nP (h (hk.trans (hi _ ht)))
class sZ (K:gN):Prop where
 is:∀a b:K.T,∃(inst:Decidable (a=b)),mA (K.enc a) (K.enc b)=some (decide (a=b))
section
variable {R:Type}
noncomputable def gY {K V:Type} (l:List (K×V)) (key:K):Option Nat:=open Classical in l.findIdx? fun p=>decide (key=p.1)
noncomputable def dB {K V:Type} (l:List (K×V)) (key:K) (v:V):List (K×V):=match gY l key with
 |some i=>l.set i (key,v)
 |none=>l++[(key,v)]
noncomputable def vE {K V:Type} (l:List (K×V)) (key:K):List (K×V):=match gY l key with
 |some i=>l.eraseIdx i
 |none=>l
noncomputable def getM {K V:Type} (l:List (K×V)) (key:K):Option V:=(gY l key).bind fun i=>(l[i]?).map (·.2)
noncomputable def gj {K V:Type} (l:List (K×V)) (key:K) (k:V→Option R) (z:Option R):Option R:=match getM l key with
 |some v=>k v
 |none=>z
noncomputable def SL {K V:Type} (l:List (K×V)) (key:K) (k:Bool→Option R):Option R:=k (gY l key).isSome
def jv {α:Type} (x:α) (k:α→Option R):Option R:=k x
noncomputable def Cq {K V:Type} (l:List (K×Option (List V))) (key:K) (k:List V→List (K×Option (List V))→Option R):Option R:=match gY l key with
 |some i=>match l[i]? with
  |some (q,some xs)=>k xs (l.set i (q,none))
  |_=>none
 |none=>k [] l
def allM {K V:Type}:List (K×Option V)→Option (List (K×V))
 |[]=>some []
 |(k,some v)::l=>(allM l).map ((k,v):: ·)
 |(_,none)::_=>none
def KK {K V:Type} (l:List (K×Option V)) (k:List (K×V)→Option R):Option R:=match allM l with
 |some m=>k m
 |none=>none
def oK (l:List Int) (k:List UInt8→Option R):Option R:=oJ (bytesOf (l.map (aJ .u8))) k
end
theorem lY {K:gN} [sZ K] {V:Type} (key:K.T):∀l:List (K.T×V),gl (K.enc key) (l.map fun p=>K.enc p.1)=some (gY l key):=by
 intro l
 induction l with
 |nil=>rfl
 |cons p l ih=>
  obtain ⟨inst,h⟩:=sZ.is (K:=K) key p.1;rw [List.map_cons,gl,h];unfold gY;rw [List.findIdx?_cons];by_cases e:key=p.1
  ·simp [e]
  ·have:decide (key=p.1)=false:=by simpa using e
   rw [this];simp only [ih,Option.map_some,e,decide_false,Bool.false_eq_true,if_false];rfl
theorem uV {K V:Type} {l:List (K×V)} {key:K} {i:Nat} (h:gY l key=some i):∃hi:i<l.length,(l[i]'hi).1=key:=by
 unfold gY at h;rw [List.findIdx?_eq_some_iff_getElem] at h;obtain ⟨hi,h1,_⟩:=h;simp only [decide_eq_true_eq] at h1;exact ⟨hi,h1.symm⟩
theorem hG {K V:gN} [c4 K.enc] [c4 V.enc]:∀{a b:List (K.T×V.T)},(az K V a).1=(az K V b).1→(az K V a).2=(az K V b).2→a=b:=by
 intro a
 induction a with
 |nil=>intro b h _;cases b with
  |nil=>rfl
  |cons x b=>simp [az] at h
 |cons x a ih=>intro b h h2;cases b with
  |nil=>simp [az] at h
  |cons y b=>
   simp only [az,List.map_cons,List.cons.injEq] at h h2;obtain ⟨x1,x2⟩:=x;obtain ⟨y1,y2⟩:=y;have e1:x1=y1:=c4.inj _ _ h.1;have e2:x2=y2:=c4.inj _ _ h2.1;rw [e1,e2,ih h.2 h2.2]
instance {K V:gN} [c4 K.enc] [c4 V.enc]:c4 (az K V):=⟨fun a b h=>hG (congrArg Prod.fst h) (congrArg Prod.snd h)⟩
instance {U:Type} {enc:U→List AV} [c4 enc]:c4 (x5 enc):=⟨fun a b h=>by
 cases a<;>cases b<;>simp only [x5,AV.ref.injEq,reduceCtorEq] at h
 ·rfl
 ·rw [c4.inj _ _ h]⟩
instance {K:gN} {E:yD} [c4 K.enc] [c4 E.enc]:c4 (cR K E):=⟨fun a b=>by
 induction a generalizing b with
 |nil=>intro h;cases b with
  |nil=>rfl
  |cons y b=>simp [cR] at h
 |cons x a ih=>intro h;cases b with
  |nil=>simp [cR] at h
  |cons y b=>
   simp only [cR,List.map_cons,Prod.mk.injEq,List.cons.injEq] at h;obtain ⟨⟨h1,h2⟩,h3,h4⟩:=h;obtain ⟨x1,x2⟩:=x;obtain ⟨y1,y2⟩:=y;have e2:x2=y2:=by
    cases x2<;>cases y2<;>simp only [Option.map_some,Option.map_none,Option.some.injEq,reduceCtorEq] at h3
    ·rfl
    ·rw [map_inj c4.inj _ _ h3]
   have e1:x1=y1:=c4.inj _ _ h1
   rw [e1,e2,ih b (by simp only [cR];rw [h2,h4])]⟩
theorem OG {K V:gN} [sZ K] (key:K.T) (l:List (K.T×V.T)):FY (K.enc key) (az K V l).1 (az K V l).2=some ((getM l key).map V.enc):=by
 unfold FY az getM;rw [lY];cases h:gY l key with
 |none=>rfl
 |some i=>
  obtain ⟨hi,_⟩:=uV h;simp [List.getElem?_eq_getElem hi]
theorem Gt {K V:gN} {l:List (K.T×V.T)} {key:K.T} {v:V.T} {i:Nat} (h:gY l key=some i):az K V (l.set i (key,v))=((az K V l).1,(az K V l).2.set i (V.enc v)):=by
 obtain ⟨hi,e⟩:=uV h;unfold az;rw [Prod.mk.injEq];constructor
 ·rw [List.map_set]
  apply List.ext_getElem
  ·simp
  ·intro j h1 h2
   rw [List.getElem_set];split
   ·rename_i hj;subst hj;simp [e]
   ·rfl
 ·rw [List.map_set]
theorem OJ {K V:gN} [sZ K] (key:K.T) (v:V.T) (l:List (K.T×V.T)):pE (K.enc key) (V.enc v) (az K V l).1 (az K V l).2=some (az K V (dB l key v)):=by
 have hf:gl (K.enc key) (az K V l).1=some (gY l key):=lY key l;unfold pE dB;rw [hf];cases h:gY l key with
 |none=>simp [az]
 |some i=>simp only [Gt h]
theorem OE {K V:gN} [sZ K] (key:K.T) (l:List (K.T×V.T)):I1 (K.enc key) (az K V l).1 (az K V l).2=some (az K V (vE l key)):=by
 have hf:gl (K.enc key) (az K V l).1=some (gY l key):=lY key l;unfold I1 vE;rw [hf];cases h:gY l key with
 |none=>simp [az]
 |some i=>simp only [az,vP]
theorem Ah {K:gN} {E:yD} {l:List (K.T×Option (List E.T))} {i:Nat} {key:K.T} {v:Option (List E.T)} (hi:i<l.length) (e:(l[i]'hi).1=key):cR K E (l.set i (key,v))=((cR K E l).1,(cR K E l).2.set i (v.map (List.map E.enc))):=by
 unfold cR;rw [Prod.mk.injEq];constructor
 ·rw [List.map_set]
  apply List.ext_getElem
  ·simp
  ·intro j h1 h2
   rw [List.getElem_set];split
   ·rename_i hj;subst hj;simp [e]
   ·rfl
 ·rw [List.map_set]
theorem Lz {K:gN} {E:yD} [sZ K] (key:K.T) (xs:List E.T) (l:List (K.T×Option (List E.T))):pE (K.enc key) (some (xs.map E.enc)) (cR K E l).1 (cR K E l).2=some (cR K E (dB l key (some xs))):=by
 have hf:gl (K.enc key) (cR K E l).1=some (gY l key):=lY key l;unfold pE dB;rw [hf];cases h:gY l key with
 |none=>simp [cR]
 |some i=>
  obtain ⟨hi,e⟩:=uV h;simp only [Ah (v:=some xs) hi e,Option.map_some]
section
variable {T:Type} {E:T→Out}
theorem Cz {L:List (List AV)} {l:List Int} {k:List UInt8→Option Out} {k':List UInt8→Option T} (hl:L=l.map (aJ .u8)) (h:∀b,cO E (k b) (k' b)):cO E (oJ (bytesOf L) k) (oK l k'):=by
 subst hl;intro x hx;unfold oK at hx;cases e:bytesOf (l.map (aJ .u8)) with
 |none=>rw [e] at hx;unfold oJ at hx;cases hx
 |some b=>rw [e] at hx;unfold oJ at hx⊢;exact h _ _ hx
theorem Ur {K:gN} {C:yD} [sZ K] {l:List (K.T×Option (List C.T))} {key:K.T} {k:Bool→Option Out} {k':Bool→Option T} (h:∀b,cO E (k b) (k' b)):cO E (Nt (gl (K.enc key) (cR K C l).1) k) (SL l key k'):=by
 intro x hx;have hf:gl (K.enc key) (cR K C l).1=some (gY l key):=lY key l;unfold Nt;rw [hf];exact h _ _ hx
theorem gO {K V:gN} [sZ K] [c4 V.enc] {l:List (K.T×V.T)} {key:K.T} {k:V.T→Option Out} {k':V.T→Option T} {z:Option Out} {z':Option T} (h:∀y,cO E (k y) (k' y)) (hz:cO E z z'):
  cO E (zA (FY (K.enc key) (az K V l).1 (az K V l).2) (fun v=>eS V.enc v k) z) (gj l key k' z'):=by
 intro x hx;unfold gj at hx;unfold zA;rw [OG];cases e:getM l key with
 |none=>rw [e] at hx;exact hz _ hx
 |some v=>rw [e] at hx;simp only [Option.map_some];rw [dX];exact h _ _ hx
theorem lH {K V:gN} [sZ K] [c4 K.enc] [c4 V.enc] {l:List (K.T×V.T)} {key:K.T} {a:AV} {v:V.T} {k:List (K.T×V.T)→Option Out} {k':List (K.T×V.T)→Option T} (ha:a=V.enc v) (h:∀m,cO E (k m) (k' m)):
  cO E (zS (pE (K.enc key) a (az K V l).1 (az K V l).2) fun p=>eS (az K V) p k) (jv (dB l key v) k'):=by
 subst ha;intro x hx;unfold zS;rw [OJ];simp only [dX];exact h _ _ hx
theorem G7 {K:gN} {C:yD} [sZ K] [c4 K.enc] [c4 C.enc] {l:List (K.T×Option (List C.T))} {key:K.T} {L:List (List AV)} {xs:List C.T} {k:List (K.T×Option (List C.T))→Option Out} {k':List (K.T×Option (List C.T))→Option T} (ha:L=xs.map C.enc) (h:∀m,cO E (k m) (k' m)):
  cO E (B8 (pE (K.enc key) (some L) (cR K C l).1 (cR K C l).2) fun p=>eS (cR K C) p k) (jv (dB l key (some xs)) k'):=by
 subst ha;intro x hx;unfold B8;rw [Lz];simp only [dX];exact h _ _ hx
theorem Mj {K:gN} {C:yD} [sZ K] [c4 K.enc] [c4 C.enc] {l:List (K.T×Option (List C.T))} {key:K.T} {k:List C.T→List (K.T×Option (List C.T))→Option Out} {k':List C.T→List (K.T×Option (List C.T))→Option T} (h:∀xs m,cO E (k xs m) (k' xs m)):
  cO E (GO (Dk (K.enc key) (cR K C l).1 (cR K C l).2) fun c c2=>eS (List.map C.enc) c fun xs=>eS (cR K C) ((cR K C l).1,c2) fun m=>k xs m) (Cq l key k'):=by
 intro x hx;have hf:gl (K.enc key) (cR K C l).1=some (gY l key):=lY key l;unfold Cq at hx;unfold GO Dk;rw [hf];cases e:gY l key with
 |none=>
  rw [e] at hx;have e0:([]:List (List AV))=List.map C.enc []:=rfl;have e1:((cR K C l).1,(cR K C l).2)=cR K C l:=rfl;simp only;rw [e0,dX,e1,dX];exact h _ _ _ hx
 |some i=>
  rw [e] at hx;obtain ⟨hi,hk⟩:=uV e;simp only at hx⊢;rw [List.getElem?_eq_getElem hi] at hx;have hv:(cR K C l).2[i]? =some ((l[i]'hi).2.map (List.map C.enc)):=by simp [cR,List.getElem?_eq_getElem hi]
  rw [hv];cases e2:(l[i]'hi) with
  |mk q v=>
   rw [e2] at hx hk;cases v with
   |none=>simp at hx
   |some xs=>
    simp only at hx;simp only [Option.map_some];rw [dX];have e3:=Ah (K:=K) (E:=C) (l:=l) (key:=q) (v:=none) hi (by rw [e2]);simp only [Option.map_none] at e3;rw [←e3,dX];exact h _ _ _ hx
theorem Mm {K:gN} {C:yD} {V:gN} {sz:Nat} (en:List C.T→AV) (dc:List C.T→V.T) (hd:∀xs,V.enc (dc xs)=en xs) (hen:∀xs,en xs= .cE sz (xs.map C.enc)):∀(l:List (K.T×Option (List C.T))) {m:List (K.T×List C.T)},allM l=some m→
  ∃c,gy (cR K C l).2=some c∧((cR K C l).1,c.map (AV.cE sz))=az K V (m.map fun p=>(p.1,dc p.2)):=by
 intro l
 induction l with
 |nil=>intro m h;simp only [allM,Option.some.injEq] at h;subst h;exact ⟨[],rfl,rfl⟩
 |cons p l ih=>
  intro m h;obtain ⟨q,v⟩:=p;cases v with
  |none=>simp [allM] at h
  |some xs=>
   simp only [allM,Option.map_eq_some_iff] at h;obtain ⟨m',hm',rfl⟩:=h;obtain ⟨c,hc,he⟩:=ih hm';refine ⟨xs.map C.enc::c,?_,?_⟩
   ·simp only [cR,List.map_cons,Option.map_some,gy] at hc⊢
    rw [hc];rfl
   ·simp only [cR,az,List.map_cons,Prod.mk.injEq,List.cons.injEq] at he⊢
    exact ⟨⟨trivial,he.1⟩,by rw [hd,hen],he.2⟩
theorem QZ {K:gN} {C:yD} {sz:Nat} [c4 K.enc] [c4 C.enc] {l:List (K.T×Option (List C.T))} {k:List (K.T×List C.T)→Option Out} {k':List (K.T×List C.T)→Option T} (h:∀m,cO E (k m) (k' m)):
  cO E (EF (gy (cR K C l).2) fun c=>eS (az K ⟨List C.T,fun x=> .cE sz (x.map C.enc)⟩) ((cR K C l).1,c.map (AV.cE sz)) k) (KK l k'):=by
 intro x hx;unfold KK at hx;split at hx
 ·rename_i m hm
  obtain ⟨c,hc,he⟩:=Mm (K:=K) (C:=C) (V:=⟨List C.T,fun x=> .cE sz (x.map C.enc)⟩) (sz:=sz) (fun xs=> .cE sz (xs.map C.enc)) (fun xs=>xs) (fun _=>rfl) (fun _=>rfl) l hm;unfold EF;rw [hc];simp only;have em:(m.map fun p=>(p.1,p.2))=m:=by simp
  rw [em] at he;have inj:c4 (az K ⟨List C.T,fun x=> .cE sz (x.map C.enc)⟩):=by
   have:c4 (gN.mk (List C.T) fun x=>AV.cE sz (x.map C.enc)).enc:=⟨fun a b h=>by injection h with _ h;exact map_inj c4.inj _ _ h⟩
   exact ⟨fun a b h=> @hG K ⟨List C.T,fun x=> .cE sz (x.map C.enc)⟩ _ this a b (congrArg Prod.fst h) (congrArg Prod.snd h)⟩
  rw [he,dX];exact h _ _ hx
 ·cases hx
def uC {A:Type} (enc:A→List AV) (k:Nat):A→List AV:=fun x=>(enc x).set k .hole
abbrev oQ {V:Type} (enc:V→List AV):List (Option (List V))→List (Option (List (List AV))):=List.map (Option.map (List.map enc))
instance {V:Type} (enc:V→List AV) [c4 enc]:c4 (oQ enc):=⟨fun a b h=>by
 refine map_inj (fun x y e=> ?_) _ _ h;cases x<;>cases y<;>simp at e⊢
 exact map_inj c4.inj _ _ e⟩
instance {V:Type} (enc:V→List AV) [c4 enc]:c4 (List.map (Option.map (List.map enc))):=inferInstanceAs (c4 (oQ enc))
def LN {R V:Type} (ys:List (Option (List V))) (i:Nat) (k:List V→List (Option (List V))→Option R):Option R:=match ys[i]? with
 |some (some zs)=>k zs (ys.set i none)
 |_=>none
def wU {A V:Type} (lW:A→List V→A):List A→List (Option (List V))→Option (List A)
 |[],[]=>some []
 |x::xs,some y::ys=>(wU lW xs ys).map (lW x y:: ·)
 |_,_=>none
def Sf {R A V:Type} (lW:A→List V→A) (xs:List A) (ys:List (Option (List V))) (k:List A→Option R):Option R:=match wU lW xs ys with
 |some l=>k l
 |none=>none
theorem Ra {V:Type} {enc:V→List AV} [c4 enc] {Y:List (Option (List V))} {i:Nat} {k:List V→List (Option (List V))→Option Out} {k':List V→List (Option (List V))→Option T} (h:∀zs y,cO E (k zs y) (k' zs y)):
  cO E (OV (oQ enc Y) i fun c=>eS (List.map enc) c fun zs=>eS (oQ enc) ((oQ enc Y).set i none) fun y=>k zs y) (LN Y i k'):=by
 intro x hx;unfold LN at hx;split at hx
 ·rename_i zs hz
  have e1:(oQ enc Y)[i]? =some (some (zs.map enc)):=by simp [hz]
  have e2:(oQ enc Y).set i none=oQ enc (Y.set i none):=by rw [oQ,List.map_set];rfl
  unfold OV;rw [e1];simp only;rw [dX,e2,dX];exact h _ _ _ hx
 ·cases hx
theorem Mi {V:Type} {enc:V→List AV} [c4 enc] {Y:List (Option (List V))} {i:Nat} {L:List (List AV)} {zs:List V} {k:List (Option (List V))→Option Out} {k':List (Option (List V))→Option T} (hl:L=zs.map enc) (h:∀y,cO E (k y) (k' y)):
  cO E (check (i<(oQ enc Y).length) (eS (oQ enc) ((oQ enc Y).set i (some L)) k)) (check (i<Y.length) (jv (Y.set i (some zs)) k')):=by
 subst hl;refine bq (by simp) ?_;have e2:(oQ enc Y).set i (some (zs.map enc))=oQ enc (Y.set i (some zs)):=by rw [oQ,List.map_set];rfl
 rw [e2,dX];exact h _
theorem Br {A V:Type} {enc:A→List AV} {HF:V→List AV} {lW:A→List V→A} {k s:Nat} (hu:∀x z,(uC enc k x).set k (.cE s (z.map HF))=enc (lW x z)):∀{xs:List A} {ys:List (Option (List V))} {l:List A},wU lW xs ys=some l→
  ∃c,gy (oQ HF ys)=some c∧qg k s (xs.map (uC enc k)) c=l.map enc
 |[],[],l,h=>by simp only [wU,Option.some.injEq] at h;subst h;exact ⟨[],rfl,rfl⟩
 |x::xs,some y::ys,l,h=>by
  simp only [wU,Option.map_eq_some_iff] at h;obtain ⟨l',hl',rfl⟩:=h;obtain ⟨c,hc,he⟩:=Br hu hl';refine ⟨y.map HF::c,?_,?_⟩
  ·simp only [oQ,List.map_cons,Option.map_some,gy] at hc⊢
   rw [hc];rfl
  ·simp only [List.map_cons,qg,hu,he]
 |[],_::_,l,h=>by simp [wU] at h
 |_::_,[],l,h=>by simp [wU] at h
 |_::_,none::_,l,h=>by simp [wU] at h
theorem R6 {A V:Type} {enc:A→List AV} [c4 enc] {HF:V→List AV} {lW:A→List V→A} {q s:Nat} {xs:List A} {ys:List (Option (List V))} {k:List A→Option Out} {k':List A→Option T} (h:∀m,cO E (k m) (k' m))
  (hu:∀x z,(uC enc q x).set q (.cE s (z.map HF))=enc (lW x z):=by intro _ _;rfl):
  cO E (EF (gy (oQ HF ys)) fun c=>eS (List.map enc) (qg q s (xs.map (uC enc q)) c) k) (Sf lW xs ys k'):=by
 intro x hx;unfold Sf at hx;split at hx
 ·rename_i m hm
  obtain ⟨c,hc,he⟩:=Br hu hm;unfold EF;rw [hc];simp only;rw [he,dX];exact h _ _ hx
 ·cases hx
theorem fe {U:Type} {E':U→Out} {c:Option Out} {f:Option U} {kk:AV→List (Nat×Ob)→Option Out} {k':U→Option T} (hf:cO E' c f) (h:∀y,cO E (kk (E' y).1 (E' y).2) (k' y)):cO E (nL c kk) (Option.bind f k'):=by
 intro x hx;obtain ⟨y,h1,h2⟩:=bind_some hx;rw [hf _ h1];unfold nL;exact h _ _ h2
theorem Mg {U V:Type} {E':U×V→Out} {c:Option Out} {f:Option (U×V)} {kk:AV→List (Nat×Ob)→Option Out} {k':U→V→Option T} (hf:cO E' c f) (h:∀y v,cO E (kk (E' (y,v)).1 (E' (y,v)).2) (k' y v)):cO E (nL c kk) (qj f k'):=
 fe hf fun p=>h p.1 p.2
theorem EC {U V W:Type} {E':U×V×W→Out} {c:Option Out} {f:Option (U×V×W)} {kk:AV→List (Nat×Ob)→Option Out} {k':U→V→W→Option T} (hf:cO E' c f) (h:∀y v w,cO E (kk (E' (y,v,w)).1 (E' (y,v,w)).2) (k' y v w)):cO E (nL c kk) (JQ f k'):=
 fe hf fun p=>h p.1 p.2.1 p.2.2
theorem CA {U:Type} {enc:U→List AV} [c4 enc] {o:Option U} {k:U→Option Out} {k':U→Option T} (h:∀x,cO E (k x) (k' x)):cO E (OY (x5 enc o) fun cs=>eS enc cs k) (LS o k'):=by
 intro x hx;cases o with
 |none=>simp [LS] at hx
 |some y=>
  unfold OY x5;simp only;rw [dX];exact h _ _ hx
theorem Uq {K V:gN} [sZ K] [c4 K.enc] [c4 V.enc] {l:List (K.T×V.T)} {key:K.T} {k:List (K.T×V.T)→Option Out} {k':List (K.T×V.T)→Option T} (h:∀m,cO E (k m) (k' m)):
  cO E (zS (I1 (K.enc key) (az K V l).1 (az K V l).2) fun p=>eS (az K V) p k) (jv (vE l key) k'):=by
 intro x hx;unfold zS;rw [OE];simp only [dX];exact h _ _ hx
theorem yG {U0 U1 U2 U3 U4:Type} {E':U0×U1×U2×U3×U4→Out} {c:Option Out} {f:Option (U0×U1×U2×U3×U4)} {kk:AV→List (Nat×Ob)→Option Out} {k':U0→U1→U2→U3→U4→Option T} (hf:cO E' c f) (h:∀a0 a1 a2 a3 a4,cO E (kk (E' (a0,a1,a2,a3,a4)).1 (E' (a0,a1,a2,a3,a4)).2) (k' a0 a1 a2 a3 a4)):cO E (nL c kk) (EK f k'):=
 fe hf fun p=>h p.1 p.2.1 p.2.2.1 p.2.2.2.1 p.2.2.2.2
theorem aF {nm:Nat} {o:Ob} {l:List (Nat×Ob)} {k:Ob→List (Nat×Ob)→Option Out} {t:Option T} (h:cO E (k o l) t):cO E (aD nm ((nm,o)::l) k) t:=by
 have:aD nm ((nm,o)::l) k=k o l:=by
  unfold aD;simp only [Nat.beq_refl,cond_true]
 rw [this];exact h
theorem jN {α:Type} {enc:α→List AV} [c4 enc] {e sz:Nat} {xs:List α} {k:List α→Option Out} {t:Option T} (h:cO E (k xs) t):cO E (gu e sz (.row e sz (xs.map enc)) fun c=>eS (List.map enc) c k) t:=by
 have:(gu e sz (.row e sz (xs.map enc)) fun c=>eS (List.map enc) c k)=eS (List.map enc) (List.map enc xs) k:=by
  unfold gu;simp only [Nat.beq_refl,Bool.and_self,cond_true]
 rw [this,dX];exact h
theorem rP {K V:gN} [c4 K.enc] [c4 V.enc] {kt et:Nat} {l:List (K.T×V.T)} {k:List (K.T×V.T)→Option Out} {t:Option T} (h:cO E (k l) t):cO E (me kt et (.mp kt et (az K V l).1 (az K V l).2) fun c=>eS (az K V) c k) t:=by
 have:(me kt et (.mp kt et (az K V l).1 (az K V l).2) fun c=>eS (az K V) c k)=eS (az K V) (az K V l) k:=by
  unfold me;simp only [Nat.beq_refl,Bool.and_self,cond_true]
 rw [this,dX];exact h
theorem bF {o:Ob} {k:Option Out} {t:Option T} (h:cO E k t):cO E (bN o o k) t:=by
 unfold bN;rw [if_pos rfl];exact h
theorem iV {k:Option Out} {t:Option T} (h:cO E k t):cO E (jw [] k) t:=by
 unfold jw;exact h
theorem iW {U:Type} {enc:U→AV} [c4 enc] {y:U} {k:U→Option Out} {t:Option T} (h:cO E (k y) t):cO E (eS enc (enc y) k) t:=by rw [dX];exact h
end
end Go.AM
