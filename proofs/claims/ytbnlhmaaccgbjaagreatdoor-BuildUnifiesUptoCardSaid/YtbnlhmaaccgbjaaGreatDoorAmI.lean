/- THE ABSTRACT MACHINE. -/
import Derived.Test.YtbnlhmaaccgbjaaGreatDoorAmP
set_option linter.all false
set_option synthInstance.maxSize 100000
set_option synthInstance.maxHeartbeats 1000000
namespace Go.AM
universe u v
class Rw {α:Sort u} (a:α) (b:outParam α):Prop where
 e:a=b
class Jr (α:Type) (enc:outParam (α->List AV)):Prop
class En {α:Type} (l:List α) (enc:outParam (α->List AV)):Prop
def tl {α:Type} (enc:α->List AV) (x:α):α:=x
def tg {α:Type} (enc:α->AV) (x:α):α:=x
def tw {α:Type} (enc:α->List AV) (x:List α):List α:=x
class EnR (α:Type) (f:outParam (α->AV)):Prop
class Im {T:Type} (E:T->Out) (t:Option T) (c:outParam (Option Out)):Prop where
 p:lT E c t
section
instance (priority:=low) iSelf {α:Sort u} (a:α):Rw a a:=⟨rfl⟩
instance (priority:=low) iEn {α:Type} {enc:α->List AV} [Jr α enc] (l:List α):En l enc:=⟨⟩
instance iEnE {β:Type} {x:List β} {s:Nat} {f:β->List AV}:En (tl (kR s f) x) f:=⟨⟩
section
variable {α:Type} {enc:α->List AV} {l m:List α}
instance [En l enc]:En (l++m) enc:=⟨⟩
instance [En l enc] {i:Nat} {x:α}:En (l.set i x) enc:=⟨⟩
instance [En l enc] {i:Nat}:En (l.take i) enc:=⟨⟩
instance [En l enc] {i:Nat}:En (l.drop i) enc:=⟨⟩
end
instance:Jr Int (dS .i64):=⟨⟩
instance:Jr (List UInt8) oO:=⟨⟩
instance:Jr Bool Xc:=⟨⟩
instance:Jr (List Int) (kR 1 (dS .i64)):=⟨⟩
instance:Jr (List (List UInt8)) (kR 1 oO):=⟨⟩
variable {α:Type u} {β:Type v}
instance iCons {a q:α} {l w:List α} [Rw a q] [Rw l w]:Rw (a::l) (q::w):=⟨by cases Rw.e (a:=a) (b:=q);cases Rw.e (a:=l) (b:=w);rfl⟩
instance iPair {a q:α} {b w:β} [Rw a q] [Rw b w]:Rw (a,b) (q,w):=⟨by cases Rw.e (a:=a) (b:=q);cases Rw.e (a:=b) (b:=w);rfl⟩
instance iSet {f:α->β} {l:List α} {L:List β} {i q:Nat} {x:α} {y:β} [Rw (l.map f) L] [Rw i q] [Rw (f x) y]:Rw ((l.set i x).map f) (L.set q y):=⟨by cases Rw.e (a:=(l.map f)) (b:=L);cases Rw.e (a:=i) (b:=q);cases Rw.e (a:=(f x)) (b:=y);exact uN ..⟩
instance iApp {f:α->β} {l m:List α} {L M:List β} [Rw (l.map f) L] [Rw (m.map f) M]:Rw ((l++m).map f) (L++M):=⟨by cases Rw.e (a:=(l.map f)) (b:=L);cases Rw.e (a:=(m.map f)) (b:=M);exact cn ..⟩
instance iMc {f:α->β} {x:α} {y:β} {l:List α} {L:List β} [Rw (f x) y] [Rw (l.map f) L]:Rw ((x::l).map f) (y::L):=⟨by cases Rw.e (a:=(f x)) (b:=y);cases Rw.e (a:=(l.map f)) (b:=L);rfl⟩
instance iMn {f:α->β}:Rw (([]:List α).map f) []:=⟨rfl⟩
instance iTake {f:α->β} {l:List α} {L:List β} {n q:Nat} [Rw (l.map f) L] [Rw n q]:Rw ((l.take n).map f) (L.take q):=⟨by cases Rw.e (a:=(l.map f)) (b:=L);cases Rw.e (a:=n) (b:=q);exact List.map_take ..⟩
instance iDrop {f:α->β} {l:List α} {L:List β} {n q:Nat} [Rw (l.map f) L] [Rw n q]:Rw ((l.drop n).map f) (L.drop q):=⟨by cases Rw.e (a:=(l.map f)) (b:=L);cases Rw.e (a:=n) (b:=q);exact pZ ..⟩
instance iRep {f:α->β} {n q:Nat} {x:α} {y:β} [Rw n q] [Rw (f x) y]:Rw ((List.replicate n x).map f) (List.replicate q y):=⟨by cases Rw.e (a:=n) (b:=q);cases Rw.e (a:=(f x)) (b:=y);exact uO ..⟩
instance iELst {U:Type} {s:Nat} {f:U->List AV} {l:List U} {L:List (List AV)} [Rw (l.map f) L]:Rw (kR s f l) [.dD s L]:=⟨by cases Rw.e (a:=(l.map f)) (b:=L);rfl⟩
instance iEInt {k:IntKind} {x y:Int} [Rw x y]:Rw (dS k x) [.int k y]:=⟨by cases Rw.e (a:=x) (b:=y);rfl⟩
instance {x y:AV} [Rw x y]:Rw (SV.pv x) (.pv y):=⟨by cases Rw.e (a:=x) (b:=y);rfl⟩
instance {k:IntKind} {x y:Int} [Rw x y]:Rw (AV.int k x) (.int k y):=⟨by cases Rw.e (a:=x) (b:=y);rfl⟩
instance {s:Nat} {x y:List (List AV)} [Rw x y]:Rw (AV.dD s x) (.dD s y):=⟨by cases Rw.e (a:=x) (b:=y);rfl⟩
instance {x y:Nat} [Rw x y]:Rw (AV.self x) (.self y):=⟨by cases Rw.e (a:=x) (b:=y);rfl⟩
instance {x y:List AV} [Rw x y]:Rw (AV.agg x) (.agg y):=⟨by cases Rw.e (a:=x) (b:=y);rfl⟩
instance {x y:List AV} [Rw x y]:Rw (AV.iQ x) (.iQ y):=⟨by cases Rw.e (a:=x) (b:=y);rfl⟩
instance {x y:Bool} [Rw x y]:Rw (AV.bool x) (.bool y):=⟨by cases Rw.e (a:=x) (b:=y);rfl⟩
instance {x y:List UInt8} [Rw x y]:Rw (AV.str x) (.str y):=⟨by cases Rw.e (a:=x) (b:=y);rfl⟩
instance {i s a b c d:Nat} [Rw a c] [Rw b d]:Rw (SV.sub i s a b) (.sub i s c d):=⟨by cases Rw.e (a:=a) (b:=c);cases Rw.e (a:=b) (b:=d);rfl⟩
instance {e s:Nat} {x y:List (List AV)} [Rw x y]:Rw (Ob.row e s x) (.row e s y):=⟨by cases Rw.e (a:=x) (b:=y);rfl⟩
instance {e:Nat} {x y:List SV} [Rw x y]:Rw (Ob.box e x) (.box e y):=⟨by cases Rw.e (a:=x) (b:=y);rfl⟩
instance {U:Type} {Q:U->AV} {x:U} {a:AV} [Rw (Q x) a]:Rw (EN Q x) (a,[]):=⟨by cases Rw.e (a:=Q x) (b:=a);rfl⟩
instance iLen {U:Type} {l:List U} {enc:U->List AV} {L:List (List AV)} [En l enc] [Rw (l.map enc) L]:Rw l.length L.length:=⟨by cases Rw.e (a:=(l.map enc)) (b:=L);exact(bz ..).symm⟩
instance {x y:Nat} [Rw x y]:Rw (x:Int) (y:Int):=⟨by cases Rw.e (a:=x) (b:=y);rfl⟩
instance {x y:Int} [Rw x y]:Rw (Int.toNat x) (Int.toNat y):=⟨by cases Rw.e (a:=x) (b:=y);rfl⟩
instance {k:IntKind} {x y:Int} [Rw x y]:Rw (IntKind.wrap k x) (IntKind.wrap k y):=⟨by cases Rw.e (a:=x) (b:=y);rfl⟩
instance [HAdd α α α] {a b q w:α} [Rw a q] [Rw b w]:Rw (a+b) (q+w):=⟨by cases Rw.e (a:=a) (b:=q);cases Rw.e (a:=b) (b:=w);rfl⟩
instance [HSub α α α] {a b q w:α} [Rw a q] [Rw b w]:Rw (a-b) (q-w):=⟨by cases Rw.e (a:=a) (b:=q);cases Rw.e (a:=b) (b:=w);rfl⟩
instance [HMul α α α] {a b q w:α} [Rw a q] [Rw b w]:Rw (a *b) (q *w):=⟨by cases Rw.e (a:=a) (b:=q);cases Rw.e (a:=b) (b:=w);rfl⟩
instance [LT α] {a b q w:α} [Rw a q] [Rw b w]:Rw (a<b) (q<w):=⟨by cases Rw.e (a:=a) (b:=q);cases Rw.e (a:=b) (b:=w);rfl⟩
instance [LE α] {a b q w:α} [Rw a q] [Rw b w]:Rw (a<=b) (q<=w):=⟨by cases Rw.e (a:=a) (b:=q);cases Rw.e (a:=b) (b:=w);rfl⟩
instance [LT α] {a b q w:α} [Rw a q] [Rw b w]:Rw (a>b) (q>w):=⟨by cases Rw.e (a:=a) (b:=q);cases Rw.e (a:=b) (b:=w);rfl⟩
instance [LE α] {a b q w:α} [Rw a q] [Rw b w]:Rw (a>=b) (q>=w):=⟨by cases Rw.e (a:=a) (b:=q);cases Rw.e (a:=b) (b:=w);rfl⟩
instance {a b q w:α} [Rw a q] [Rw b w]:Rw (a=b) (q=w):=⟨by cases Rw.e (a:=a) (b:=q);cases Rw.e (a:=b) (b:=w);rfl⟩
instance {p q w z:Prop} [Rw p w] [Rw q z]:Rw (p/\q) (w/\z):=⟨by cases Rw.e (a:=p) (b:=w);cases Rw.e (a:=q) (b:=z);rfl⟩
instance {p q:Prop} [Rw p q] [i:Decidable p] [j:Decidable q]:Rw (decide p) (decide q):=⟨by
 cases Rw.e (a:=p) (b:=q);congr⟩
instance [BEq α] {a b q w:α} [Rw a q] [Rw b w]:Rw (a==b) (q==w):=⟨by cases Rw.e (a:=a) (b:=q);cases Rw.e (a:=b) (b:=w);rfl⟩
instance [BEq α] {a b q w:α} [Rw a q] [Rw b w]:Rw (a !=b) (q !=w):=⟨by cases Rw.e (a:=a) (b:=q);cases Rw.e (a:=b) (b:=w);rfl⟩
instance {a q:Bool} [Rw a q]:Rw (!a) (!q):=⟨by cases Rw.e (a:=a) (b:=q);rfl⟩
instance {a b q w:Bool} [Rw a q] [Rw b w]:Rw (a&&b) (q&&w):=⟨by cases Rw.e (a:=a) (b:=q);cases Rw.e (a:=b) (b:=w);rfl⟩
instance iRun {P:Program} {H:Nat->Hint} {gI:eN} {f:Nat} {a q:List SV} {l w:List (Nat×Ob)} [Rw a q] [Rw l w]:Rw (run P H gI f a l) (run P H gI f q w):=⟨by cases Rw.e (a:=a) (b:=q);cases Rw.e (a:=l) (b:=w);rfl⟩
instance iHead {P:Program} {C:lK} {H:Nat->Hint} {gI:eN} {f key:Nat} {nm:List Nat} {a q:List (Nat×SV)} {l w:List (Nat×Ob)} [Rw a q] [Rw l w]:Rw (uD P C H gI f key nm a l) (uD P C H gI f key nm q w):=⟨by cases Rw.e (a:=a) (b:=q);cases Rw.e (a:=l) (b:=w);rfl⟩
end
section
variable {T:Type} {E:T->Out}
instance mSome {x:T} {y:Out} [Rw (E x) y]:Im E (some x) (some y):=⟨A2 (Rw.e (a:=E x)).symm⟩
instance mDec {c c':Option Out} [Rw c c']:Im E (dec E c) c':=⟨by rw[<-Rw.e (a:=c) (b:=c')];exact Iz⟩
instance mCond {c c':Bool} {a b:Option Out} {q w:Option T} [Rw c' c] [Im E q a] [Im E w b]:Im E (bif c' then q else w) (bif c then a else b):=⟨rF (Rw.e (a:=c')).symm (Im.p (t:=q)) (Im.p (t:=w))⟩
instance mCheck {p q:Prop} [Decidable q] [Rw q p] [Decidable p] {a:Option Out} {w:Option T} [Im E w a]:Im E (check q w) (check p a):=⟨iH (λh=>by rw[<-Rw.e (a:=q) (b:=p)];exact h) (Im.p (t:=w))⟩
instance mGetK {α:Type} {enc:α->List AV} {l:List α} [En l enc] [fC enc] {L:List (List AV)} [Rw (l.map enc) L] {i q:Int} [Rw q i] {k:α->Option Out} {k':α->Option T} [h:∀x,Im E (k' (tl enc x)) (k x)]:Im E (bA l q k') (bA L i λc=>tK enc c k):=⟨aeO (Rw.e (a:=l.map enc)).symm (Rw.e (a:=q)).symm λx=>(h x).p⟩
instance mGetN {α:Type} {enc:α->List AV} {l:List α} [En l enc] [fC enc] {L:List (List AV)} [Rw (l.map enc) L] {i q:Nat} [Rw q i] {k:α->Option Out} {k':α->Option T} [h:∀x,Im E (k' (tl enc x)) (k x)]:Im E (eG l q k') (eG L i λc=>tK enc c k):=⟨aeP (Rw.e (a:=l.map enc)).symm (Rw.e (a:=q)).symm λx=>(h x).p⟩
instance mGetb {l:List UInt8} {i q:Int} [Rw q i] {k:UInt8->Option Out} {k':UInt8->Option T} [∀x,Im E (k' x) (k x)]:Im E (bA l q k') (bA l i k):=⟨by rw[Rw.e (a:=q) (b:=i)];exact I_getb λx=>Im.p (t:=k' x)⟩
instance mCall {U:Type} {enc:U->AV} [fC enc] {c c':Option Out} [Rw c' c] {k:U->Option Out} {k':U->Option T} [h:∀y,Im E (k' (tg enc y)) (k y)]:Im E (Option.bind (dec (EN enc) c') k') (yb c λr=>tK enc r k):=⟨by rw[Rw.e (a:=c') (b:=c)];exact Ik λy=>(h y).p⟩
end
section
variable {α β:Type}
def pA (enc:α->List AV):α->AV:=λx=> .agg (enc x)
def pL (n:Nat) (enc:α->List AV):List α->AV:=λx=> .dD n (x.map enc)
def pP (f:α->AV) (g:β->AV):α×β->AV:=λx=> .iQ [f x.1,g x.2]
def pT {q:Type} (f:α->AV) (g:β->AV) (h:q->AV):α×β×q->AV:=λx=> .iQ [f x.1,g x.2.1,h x.2.2]
def pW (e n:Nat) (enc:α->List AV):List α->AV:=λx=> .iQ [.iQ [.self e, .dD n (x.map enc)]]
def pM (f:α->AV) (g:β->AV):List (α×β)->AV:=λx=> .mp (fA ⟨α,f⟩ ⟨β,g⟩ x).1 (fA ⟨α,f⟩ ⟨β,g⟩ x).2
def pF (n:Nat) (enc:α->List AV):List α->AV:=λx=> .fn n [.ref [.dD 2 (x.map enc)]]
def pU:Unit->AV:=λ_=> .iQ []
variable {f:α->AV} {g:β->AV} {enc:α->List AV} {n e:Nat}
instance {k:IntKind}:fC (AV.int k):=⟨λa b h=>by injection h⟩
instance:fC AV.bool:=⟨λa b h=>by injection h⟩
instance:fC AV.str:=⟨λa b h=>by injection h⟩
instance:fC AV.self:=⟨λa b h=>by injection h⟩
instance:fC pU:=⟨λ_ _ _=>rfl⟩
instance [fC enc]:fC (pA enc):=⟨λa b h=>by injection h with h;exact fC.inj _ _ h⟩
instance [fC enc]:fC (pL n enc):=⟨λa b h=>by injection h with _ h;exact map_inj fC.inj _ _ h⟩
instance [fC f] [fC g]:fC (pP f g):=⟨λa b h=>by
 simp only[pP,AV.iQ.injEq,cS,eH] at h
 exact p5 (fC.inj _ _ h.1) (fC.inj _ _ h.2)⟩
instance [fC enc]:fC (pW e n enc):=⟨λa b h=>by
 simp only[pW,AV.iQ.injEq,cS,AV.dD.injEq,eE,eH] at h
 exact map_inj fC.inj _ _ h⟩
instance [fC enc]:fC (pF n enc):=⟨λa b h=>by
 simp only[pF,AV.fn.injEq,AV.ref.injEq,cS,AV.dD.injEq,eE,eH] at h
 exact map_inj fC.inj _ _ h⟩
instance [i:fC f] [j:fC g]:fC (pM f g):=⟨λa b h=>by injection h with q w;exact @vN ⟨α,f⟩ ⟨β,g⟩ i j _ _ q w⟩
instance {l:List α} {L:List (List AV)} [Rw (l.map enc) L]:Rw (pL n enc l) (.dD n L):=⟨by cases Rw.e (a:=l.map enc) (b:=L);rfl⟩
instance {x:α} {y:β} {a b:AV} [Rw (f x) a] [Rw (g y) b]:Rw (pP f g (x,y)) (.iQ [a,b]):=⟨by cases Rw.e (a:=f x) (b:=a);cases Rw.e (a:=g y) (b:=b);rfl⟩
instance {x:List α}:En (tg (pL n enc) x) enc:=⟨⟩
instance {x:List α×β}:En (tg (pP (pL n enc) g) x).1 enc:=⟨⟩
instance {q:Type} {h:q->AV} [fC f] [fC g] [fC h]:fC (pT f g h):=⟨λa b e=>by
 simp only[pT,AV.iQ.injEq,cS,eH] at e
 exact p5 (fC.inj _ _ e.1) (p5 (fC.inj _ _ e.2.1) (fC.inj _ _ e.2.2))⟩
instance {q:Type} {h:q->AV} {x:α} {y:β} {z:q} {a b c:AV} [Rw (f x) a] [Rw (g y) b] [Rw (h z) c]:Rw (pT f g h (x,y,z)) (.iQ [a,b,c]):=⟨by cases Rw.e (a:=f x) (b:=a);cases Rw.e (a:=g y) (b:=b);cases Rw.e (a:=h z) (b:=c);rfl⟩
instance {q:Type} {h:q->AV} {x:β×List α×q}:En (tg (pT g (pL n enc) h) x).2.1 enc:=⟨⟩
instance {x:β×List α}:En (tg (pP g (pL n enc)) x).2 enc:=⟨⟩
end
structure De0 where
 e:List (Nat×Ob)
 r:List (Nat×Ob)->Option Out->Option Out
 ok:∀k,r e k=k
structure De (T:Type) where
 e:T->List (Nat×Ob)
 r:List (Nat×Ob)->(T->Option Out)->Option Out
 ok:∀x k,r (e x) k=k x
structure It (α:Type) where
 e:α->Ob
 r:Ob->(α->Option Out)->Option Out
 ok:∀x k,r (e x) k=k x
noncomputable section
def unc (q:Nat) (o:Ob) (l:List (Nat×Ob)) (k:Ob->List (Nat×Ob)->Option Out):vv q ((q,o)::l) k=k o l:=by unfold vv;simp
def smk (o:Ob) (k:Option Out):Fy o o k=k:=by unfold Fy;simp
def dZ:De0:=⟨[],ZQ,λk=>by unfold ZQ;rfl⟩
def iR {α:Type} (e q:Nat) (enc:α->List AV) [fC enc]:It (List α):=⟨λxs=> .row e q (xs.map enc),λo k=>Rv e q o λc=>tK (List.map enc) c k,λx k=>by unfold Rv;simp[mc]⟩
def iM (w q:Nat) (K V:vF) [fC K.enc] [fC V.enc]:It (List (K.T×V.T)):=⟨λl=> .mp w q (fA K V l).1 (fA K V l).2,λo k=>Ru w q o λc=>tK (fA K V) c k,λx k=>by unfold Ru;simp[mc]⟩
section
variable {α T:Type}
def dT (q:Nat) (w:Ob) (d:De T):De T:=⟨λx=>(q,w)::d.e x,λl k=>vv q l λo l=>Fy o w (d.r l k),λx k=>by rw[unc,smk,d.ok]⟩
def dI (q:Nat) (i:It α) (d:De T):De (α×T):=⟨λx=>(q,i.e x.1)::d.e x.2,λl k=>vv q l λo l=>i.r o λx=>d.r l λy=>k (x,y),λx k=>by rw[unc,i.ok,d.ok]⟩
def dJ (q:Nat) (i:It α) (z:De0):De α:=⟨λx=>(q,i.e x)::z.e,λl k=>vv q l λo l=>i.r o λx=>z.r l (k x),λx k=>by rw[unc,i.ok,z.ok]⟩
variable {U:Type}
def eD (Q:U->AV) (d:De T):U×T->Out:=λx=>(Q x.1,d.e x.2)
def eZ (Q:U->AV) (z:De0):U->Out:=λx=>(Q x,z.e)
def eR {V:Type} (Q:U->AV) (q e w:Nat) (enc:V->List AV):U×List V->Out:=λx=>(Q x.1,[(q, .row e w (x.2.map enc))])
instance {V:Type} {Q:U->AV} {nm e sz:Nat} {enc:V->List AV} {x:U} {l:List V} {a:AV} {L:List (List AV)} [Rw (Q x) a] [Rw (l.map enc) L]:Rw (eR Q nm e sz enc (x,l)) (a,[(nm, .row e sz L)]):=⟨by cases Rw.e (a:=Q x) (b:=a);cases Rw.e (a:=l.map enc) (b:=L);rfl⟩
class RwI {V:Type} (i:It V) (x:V) (o:outParam Ob):Prop where
 e:i.e x=o
class RwD {V:Type} (d:De V) (x:V) (l:outParam (List (Nat×Ob))):Prop where
 e:d.e x=l
instance (priority:=low) {i:It α} {x:α}:RwI i x (i.e x):=⟨rfl⟩
instance {V:Type} {e sz:Nat} {enc:V->List AV} [fC enc] {l:List V} {L:List (List AV)} [j:Rw (l.map enc) L]:RwI (iR e sz enc) l (.row e sz L):=⟨by rw[<-j.e];rfl⟩
instance {nm:Nat} {q:Ob} {d:De T} {w:T} {l:List (Nat×Ob)} [j:RwD d w l]:RwD (dT nm q d) w ((nm,q)::l):=⟨by rw[<-j.e];rfl⟩
instance {nm:Nat} {i:It α} {d:De T} {x:α} {w:T} {o:Ob} {l:List (Nat×Ob)} [k:RwI i x o] [j:RwD d w l]:RwD (dI nm i d) (x,w) ((nm,o)::l):=⟨by rw[<-j.e,<-k.e];rfl⟩
instance {nm:Nat} {i:It α} {z:De0} {x:α} {o:Ob} [k:RwI i x o]:RwD (dJ nm i z) x ((nm,o)::z.e):=⟨by rw[<-k.e];rfl⟩
instance {Q:U->AV} {d:De T} {x:U} {w:T} {a:AV} {l:List (Nat×Ob)} [i:Rw (Q x) a] [j:RwD d w l]:Rw (eD Q d (x,w)) (a,l):=⟨by rw[<-i.e,<-j.e];rfl⟩
def De.inj (d:De T) {a b:T} (h:d.e a=d.e b):a=b:=by
 have q:=d.ok a λx=>open Classical in if x=a then some (.rD,[]) else none
 rw[h,d.ok] at q;simp at q;exact q.symm
instance {Q:U->AV} [fC Q] {d:De T}:fC (eD Q d):=⟨λa b h=>p5 (fC.inj _ _ (aP Prod.fst h)) (d.inj (aP Prod.snd h))⟩
instance {Q:U->AV} [fC Q] {z:De0}:fC (eZ Q z):=⟨λa b h=>fC.inj _ _ (aP Prod.fst h)⟩
instance {V:Type} {Q:U->AV} [fC Q] {nm e sz:Nat} {enc:V->List AV} [fC enc]:fC (eR Q nm e sz enc):=⟨λa b h=>by
 simp only[eR,ck,cS,Ob.row.injEq,eE,eH] at h
 exact p5 (fC.inj _ _ h.1) (map_inj fC.inj _ _ h.2)⟩
end
end
section
variable {T U W:Type} {E:T->Out} {Q:U->AV} [fC Q] {c c':Option Out}
def I_D {d:De W} {k:U->W->Option Out} {k':U×W->Option T} (h:∀y w,lT E (k y w) (k' (y,w))):lT E (Bp c λr l=>d.r l λw=>tK Q r λy=>k y w) (Option.bind (dec (eD Q d) c) k'):=
 aeM (iw _ _) λy=>by simp only[eD,d.ok,mc];exact h _ _
instance mCall3 {q z:Type} {d:De (q×z)} [Rw c' c] {k:U->q->z->Option Out} {k':U->q->z->Option T} [h:∀y B D,Im E (k' (tg Q y) B D) (k y B D)]:Im E (e9 (dec (eD Q d) c') k') (Bp c λr l=>d.r l λw=>tK Q r λy=>k y w.1 w.2):=⟨by
 rw[Rw.e (a:=c') (b:=c)];exact I_D λy w=>(h y w.1 w.2).p⟩
instance mCall4 {q z B:Type} {d:De (q×z×B)} [Rw c' c] {k:U->q->z->B->Option Out} {k':U->q->z->B->Option T} [h:∀y D F G,Im E (k' (tg Q y) D F G) (k y D F G)]:Im E (mN (dec (eD Q d) c') k') (Bp c λr l=>d.r l λw=>tK Q r λy=>k y w.1 w.2.1 w.2.2):=⟨by
 rw[Rw.e (a:=c') (b:=c)];exact I_D λy w=>(h y w.1 w.2.1 w.2.2).p⟩
instance mCall5 {q z B D:Type} {d:De (q×z×B×D)} [Rw c' c] {k:U->q->z->B->D->Option Out} {k':U->q->z->B->D->Option T} [h:∀y F G H I,Im E (k' (tg Q y) F G H I) (k y F G H I)]:Im E (JJ (dec (eD Q d) c') k') (Bp c λr l=>d.r l λw=>tK Q r λy=>k y w.1 w.2.1 w.2.2.1 w.2.2.2):=⟨by
 rw[Rw.e (a:=c') (b:=c)];exact I_D λy w=>(h y w.1 w.2.1 w.2.2.1 w.2.2.2).p⟩
instance mCall6 {q z B D F:Type} {d:De (q×z×B×D×F)} [Rw c' c] {k:U->q->z->B->D->F->Option Out} {k':U->q->z->B->D->F->Option T} [h:∀y G H I K L,Im E (k' (tg Q y) G H I K L) (k y G H I K L)]:Im E (Ry (dec (eD Q d) c') k') (Bp c λr l=>d.r l λw=>tK Q r λy=>k y w.1 w.2.1 w.2.2.1 w.2.2.2.1 w.2.2.2.2):=⟨by
 rw[Rw.e (a:=c') (b:=c)];exact I_D λy w=>(h y w.1 w.2.1 w.2.2.1 w.2.2.2.1 w.2.2.2.2).p⟩
instance mCallR {V:Type} {nm e sz:Nat} {q:V->List AV} [fC q] [Rw c' c] {k:U->List V->Option Out} {k':U->List V->Option T} [h:∀y w,Im E (k' (tg Q y) (tw q w)) (k y w)]:Im E (CW (dec (eR Q nm e sz q) c') k') (Hr c nm e sz λr c2=>tK Q r λy=>tK (List.map q) c2 λxs=>k y xs):=⟨by
 rw[Rw.e (a:=c') (b:=c)];exact aeN (iw _ _) λy w=>(h y w).p⟩
instance:EnR Int (AV.int .i64):=⟨⟩
instance:EnR Bool AV.bool:=⟨⟩
instance:EnR (List UInt8) AV.str:=⟨⟩
end
section
variable {T:Type} {E:T->Out} {κ ν:Type} {f:κ->AV} {g:ν->AV} {l:List (κ×ν)} {key:κ} {a:AV}
instance mLook [EnR κ f] [EnR ν g] [Ip ⟨κ,f⟩] [i:fC g] [Rw (f key) a] {k:ν->Option Out} {k':ν->Option T} {z:Option Out} {q:Option T} [h:∀y,Im E (k' (tg g y)) (k y)] [Im E q z]:Im E (w6 l key k' q) (Nk (VX a (fA ⟨κ,f⟩ ⟨ν,g⟩ l).1 (fA ⟨κ,f⟩ ⟨ν,g⟩ l).2) (λv=>tK g v k) z):=⟨by
 rw[<-Rw.e (a:=f key) (b:=a)];exact @I_look T E ⟨κ,f⟩ ⟨ν,g⟩ _ i l key k k' z q (λy=>(h y).p) Im.p⟩
instance mPut [EnR κ f] [EnR ν g] [Ip ⟨κ,f⟩] [i:fC g] [Rw (f key) a] [j:fC f] {v:ν} {b:AV} [Rw (g v) b] {k:List (κ×ν)->Option Out} {k':List (κ×ν)->Option T} [h:∀m,Im E (k' m) (k m)]:Im E (AR (yC l key v) k') (Wm (DQ a b (fA ⟨κ,f⟩ ⟨ν,g⟩ l).1 (fA ⟨κ,f⟩ ⟨ν,g⟩ l).2) λp=>tK (fA ⟨κ,f⟩ ⟨ν,g⟩) p k):=⟨by
 rw[<-Rw.e (a:=f key) (b:=a)];exact @I_put T E ⟨κ,f⟩ ⟨ν,g⟩ _ j i l key b v k k' (Rw.e (a:=g v)).symm λm=>(h m).p⟩
instance [EnR κ f] [EnR ν g]:Rw l.length (fA ⟨κ,f⟩ ⟨ν,g⟩ l).1.length:=⟨by simp[fA]⟩
end
def UA {α:Type} {enc:α->List AV} [fC enc] {t:TypeId} {pre:List SV} {q:Nat} {x:List α} {k:List α->Option Out}:(JE t pre q (.box t (pre++[.pv (.dD q (List.map enc x))])) λc=>tK (List.map enc) c k)=k x:=by
 have key:∀w:List (List AV),Ob.box t (pre++[.pv (.dD q (List.map enc x))])= .box t (pre++[.pv (.dD q w)])->List.map enc x=w:=by intro w e;simp only[Ob.box.injEq,eE] at e;have e:=List.append_cancel_left e;simpa only[cS,SV.pv.injEq,AV.dD.injEq,eE,eH] using e
 have h:∃xs,Ob.box t (pre++[.pv (.dD q (List.map enc x))])= .box t (pre++[.pv (.dD q xs)]):=⟨_,rfl⟩
 unfold JE;rw[kL h,<-key _ h.choose_spec];show tK (List.map enc) (List.map enc x) k=k x;rw[mc]
noncomputable def iL {α:Type} (t:TypeId) (pre:List SV) (q:Nat) (enc:α->List AV) [fC enc]:It (List α):=⟨λxs=> .box t (pre++[.pv (.dD q (xs.map enc))]),λo k=>JE t pre q o λc=>tK (List.map enc) c k,λ_ _=>UA⟩
class Gn {α:Type} (G:α->Out):Prop
class EnX {α:Type} (l:List α) (f g:outParam (α->List AV)):Prop where
 e:f=g
section
variable {T:Type} {E:T->Out} {c c':Option Out}
instance mGetX {α:Type} {f g:α->List AV} {l:List α} [x:EnX l f g] [fC g] {i q:Int} [Rw q i] {k:α->Option Out} {k':α->Option T} [h:∀x,Im E (k' (tl g x)) (k x)]:Im E (bA l q k') (bA (l.map f) i λr=>tK g r k):=⟨by
 rw[Rw.e (a:=q) (b:=i)];exact IgX x.e λx=>(h x).p⟩
variable [Rw c' c]
instance mGen {U:Type} {G:U->Out} [Gn G] [fC G] {k:U->Option Out} {k':U->Option T} [h:∀y,Im E (k' y) (k y)]:Im E (Option.bind (dec G c') k') (Mq G c k):=⟨by
 rw[Rw.e (a:=c') (b:=c)];exact AZ (iw _ _) λy=>(h y).p⟩
instance mGen3 {U V W:Type} {G:U×V×W->Out} [Gn G] [fC G] {k:U->V->W->Option Out} {k':U->V->W->Option T} [h:∀y v w,Im E (k' y v w) (k y v w)]:Im E (e9 (dec G c') k') (genK3 G c k):=⟨by
 rw[Rw.e (a:=c') (b:=c)];exact Ju (iw _ _) λy v w=>(h y v w).p⟩
instance mGen4 {U V W X:Type} {G:U×V×W×X->Out} [Gn G] [fC G] {k:U->V->W->X->Option Out} {k':U->V->W->X->Option T} [h:∀y v w x,Im E (k' y v w x) (k y v w x)]:Im E (mN (dec G c') k') (genK4 G c k):=⟨by
 rw[Rw.e (a:=c') (b:=c)];exact Ur (iw _ _) λy v w x=>(h y v w x).p⟩
instance mGen5 {U V W X Y:Type} {G:U×V×W×X×Y->Out} [Gn G] [fC G] {k:U->V->W->X->Y->Option Out} {k':U->V->W->X->Y->Option T} [h:∀y v w x z,Im E (k' y v w x z) (k y v w x z)]:Im E (JJ (dec G c') k') (genK5 G c k):=⟨by
 rw[Rw.e (a:=c') (b:=c)];exact I_gen5 (iw _ _) λy v w x z=>(h y v w x z).p⟩
end
