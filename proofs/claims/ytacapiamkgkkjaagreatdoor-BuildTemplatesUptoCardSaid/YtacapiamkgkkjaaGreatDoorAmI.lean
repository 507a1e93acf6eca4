/- THE ABSTRACT MACHINE. -/
import Derived.Test.YtacapiamkgkkjaaGreatDoorAmP
set_option linter.all false
set_option synthInstance.maxSize 100000
set_option synthInstance.maxHeartbeats 1000000
namespace Go.AM
universe u v
class Rw {α:Sort u} (a:α) (b:outParam α):Prop where
 e:a=b
class JU (α:Type) (enc:outParam (α->List AV)):Prop
class En {α:Type} (l:List α) (enc:outParam (α->List AV)):Prop
def tl {α:Type} (enc:α->List AV) (x:α):α:=x
def tg {α:Type} (enc:α->AV) (x:α):α:=x
def tw {α:Type} (enc:α->List AV) (x:List α):List α:=x
class EnR (α:Type) (f:outParam (α->AV)):Prop
class Im {T:Type} (E:T->Out) (t:Option T) (c:outParam (Option Out)):Prop where
 p:lV E c t
section
instance (priority:=low) iSelf {α:Sort u} (a:α):Rw a a:=⟨rfl⟩
instance (priority:=low) iEn {α:Type} {enc:α->List AV} [JU α enc] (l:List α):En l enc:=⟨⟩
instance iEnE {β:Type} {x:List β} {s:Nat} {f:β->List AV}:En (tl (nC s f) x) f:=⟨⟩
instance iEnW {β:Type} {x:List β} {f:β->List AV}:En (tw f x) f:=⟨⟩
section
variable {α:Type} {enc:α->List AV} {l m:List α}
instance [En l enc]:En (l++m) enc:=⟨⟩
instance [En l enc] {i:Nat} {x:α}:En (l.set i x) enc:=⟨⟩
instance [En l enc] {i:Nat}:En (l.take i) enc:=⟨⟩
instance [En l enc] {i:Nat}:En (l.drop i) enc:=⟨⟩
end
instance:JU Int (eC .i64):=⟨⟩
instance:JU (List UInt8) jL:=⟨⟩
instance:JU Bool XQ:=⟨⟩
instance:JU (List Int) (nC 1 (eC .i64)):=⟨⟩
instance:JU (List (List UInt8)) (nC 1 jL):=⟨⟩
variable {α:Type u} {β:Type v}
instance iCons {a q:α} {l w:List α} [Rw a q] [Rw l w]:Rw (a::l) (q::w):=⟨by cases Rw.e (a:=a) (b:=q);cases Rw.e (a:=l) (b:=w);rfl⟩
instance iPair {a q:α} {b w:β} [Rw a q] [Rw b w]:Rw (a,b) (q,w):=⟨by cases Rw.e (a:=a) (b:=q);cases Rw.e (a:=b) (b:=w);rfl⟩
instance iSet {f:α->β} {l:List α} {L:List β} {i q:Nat} {x:α} {y:β} [Rw (l.map f) L] [Rw i q] [Rw (f x) y]:Rw ((l.set i x).map f) (L.set q y):=⟨by cases Rw.e (a:=(l.map f)) (b:=L);cases Rw.e (a:=i) (b:=q);cases Rw.e (a:=(f x)) (b:=y);exact vh ..⟩
instance iApp {f:α->β} {l m:List α} {L M:List β} [Rw (l.map f) L] [Rw (m.map f) M]:Rw ((l++m).map f) (L++M):=⟨by cases Rw.e (a:=(l.map f)) (b:=L);cases Rw.e (a:=(m.map f)) (b:=M);exact cE ..⟩
instance iMc {f:α->β} {x:α} {y:β} {l:List α} {L:List β} [Rw (f x) y] [Rw (l.map f) L]:Rw ((x::l).map f) (y::L):=⟨by cases Rw.e (a:=(f x)) (b:=y);cases Rw.e (a:=(l.map f)) (b:=L);rfl⟩
instance iMn {f:α->β}:Rw (([]:List α).map f) []:=⟨rfl⟩
instance iTake {f:α->β} {l:List α} {L:List β} {n q:Nat} [Rw (l.map f) L] [Rw n q]:Rw ((l.take n).map f) (L.take q):=⟨by cases Rw.e (a:=(l.map f)) (b:=L);cases Rw.e (a:=n) (b:=q);exact List.map_take ..⟩
instance iDrop {f:α->β} {l:List α} {L:List β} {n q:Nat} [Rw (l.map f) L] [Rw n q]:Rw ((l.drop n).map f) (L.drop q):=⟨by cases Rw.e (a:=(l.map f)) (b:=L);cases Rw.e (a:=n) (b:=q);exact om ..⟩
instance iRep {f:α->β} {n q:Nat} {x:α} {y:β} [Rw n q] [Rw (f x) y]:Rw ((List.replicate n x).map f) (List.replicate q y):=⟨by cases Rw.e (a:=n) (b:=q);cases Rw.e (a:=(f x)) (b:=y);exact vi ..⟩
instance iELst {U:Type} {s:Nat} {f:U->List AV} {l:List U} {L:List (List AV)} [Rw (l.map f) L]:Rw (nC s f l) [.dK s L]:=⟨by cases Rw.e (a:=(l.map f)) (b:=L);rfl⟩
instance iEInt {k:IntKind} {x y:Int} [Rw x y]:Rw (eC k x) [.int k y]:=⟨by cases Rw.e (a:=x) (b:=y);rfl⟩
instance {x y:AV} [Rw x y]:Rw (SV.pv x) (.pv y):=⟨by cases Rw.e (a:=x) (b:=y);rfl⟩
instance {k:IntKind} {x y:Int} [Rw x y]:Rw (AV.int k x) (.int k y):=⟨by cases Rw.e (a:=x) (b:=y);rfl⟩
instance {s:Nat} {x y:List (List AV)} [Rw x y]:Rw (AV.dK s x) (.dK s y):=⟨by cases Rw.e (a:=x) (b:=y);rfl⟩
instance {x y:Nat} [Rw x y]:Rw (AV.self x) (.self y):=⟨by cases Rw.e (a:=x) (b:=y);rfl⟩
instance {x y:List AV} [Rw x y]:Rw (AV.agg x) (.agg y):=⟨by cases Rw.e (a:=x) (b:=y);rfl⟩
instance {x y:List AV} [Rw x y]:Rw (AV.gy x) (.gy y):=⟨by cases Rw.e (a:=x) (b:=y);rfl⟩
instance {x y:Bool} [Rw x y]:Rw (AV.bool x) (.bool y):=⟨by cases Rw.e (a:=x) (b:=y);rfl⟩
instance {x y:List UInt8} [Rw x y]:Rw (AV.str x) (.str y):=⟨by cases Rw.e (a:=x) (b:=y);rfl⟩
instance {i s a b c d:Nat} [Rw a c] [Rw b d]:Rw (SV.sub i s a b) (.sub i s c d):=⟨by cases Rw.e (a:=a) (b:=c);cases Rw.e (a:=b) (b:=d);rfl⟩
instance {e s:Nat} {x y:List (List AV)} [Rw x y]:Rw (Ob.row e s x) (.row e s y):=⟨by cases Rw.e (a:=x) (b:=y);rfl⟩
instance {e:Nat} {x y:List SV} [Rw x y]:Rw (Ob.box e x) (.box e y):=⟨by cases Rw.e (a:=x) (b:=y);rfl⟩
instance {U:Type} {Q:U->AV} {x:U} {a:AV} [Rw (Q x) a]:Rw (EN Q x) (a,[]):=⟨by cases Rw.e (a:=Q x) (b:=a);rfl⟩
instance iLen {U:Type} {l:List U} {enc:U->List AV} {L:List (List AV)} [En l enc] [Rw (l.map enc) L]:Rw l.length L.length:=⟨by cases Rw.e (a:=(l.map enc)) (b:=L);exact(bI ..).symm⟩
instance {x y:Nat} [Rw x y]:Rw (x:Int) (y:Int):=⟨by cases Rw.e (a:=x) (b:=y);rfl⟩
instance {x y:Int} [Rw x y]:Rw (Int.toNat x) (Int.toNat y):=⟨by cases Rw.e (a:=x) (b:=y);rfl⟩
instance {k:IntKind} {x y:Int} [Rw x y]:Rw (IntKind.wrap k x) (IntKind.wrap k y):=⟨by cases Rw.e (a:=x) (b:=y);rfl⟩
instance [HAdd α α α] {a b q w:α} [Rw a q] [Rw b w]:Rw (a+b) (q+w):=⟨by cases Rw.e (a:=a) (b:=q);cases Rw.e (a:=b) (b:=w);rfl⟩
instance [HSub α α α] {a b q w:α} [Rw a q] [Rw b w]:Rw (a-b) (q-w):=⟨by cases Rw.e (a:=a) (b:=q);cases Rw.e (a:=b) (b:=w);rfl⟩
instance [HMul α α α] {a b q w:α} [Rw a q] [Rw b w]:Rw (a *b) (q *w):=⟨by cases Rw.e (a:=a) (b:=q);cases Rw.e (a:=b) (b:=w);rfl⟩
instance [LT α] {a b q w:α} [Rw a q] [Rw b w]:Rw (a<b) (q<w):=⟨by cases Rw.e (a:=a) (b:=q);cases Rw.e (a:=b) (b:=w);rfl⟩
instance [LE α] {a b q w:α} [Rw a q] [Rw b w]:Rw (a<=b) (q<=w):=⟨by cases Rw.e (a:=a) (b:=q);cases Rw.e (a:=b) (b:=w);rfl⟩
instance [LT α] {a b q w:α} [Rw a q] [Rw b w]:Rw (a>b) (q>w):=⟨by cases Rw.e (a:=a) (b:=q);cases Rw.e (a:=b) (b:=w);rfl⟩
instance [LE α] {a b q w:α} [Rw a q] [Rw b w]:Rw (a>=b) (q>=w):=⟨by cases Rw.e (a:=a) (b:=q);cases Rw.e (a:=b) (b:=w);rfl⟩
instance {a b q w:α} [Rw a q] [Rw b w]:Rw (a=b) (q=w):=⟨by cases Rw.e (a:=a) (b:=q);cases Rw.e (a:=b) (b:=w);rfl⟩
instance {p q w z:Prop} [Rw p w] [Rw q z]:Rw (p/\q) (w/\z):=⟨by cases Rw.e (a:=p) (b:=w);cases Rw.e (a:=q) (b:=z);rfl⟩
instance {p q:Prop} [Rw p q] [i:Decidable p] [j:Decidable q]:Rw (decide p) (decide q):=⟨by
 cases Rw.e (a:=p) (b:=q);congr⟩
instance [BEq α] {a b q w:α} [Rw a q] [Rw b w]:Rw (a==b) (q==w):=⟨by cases Rw.e (a:=a) (b:=q);cases Rw.e (a:=b) (b:=w);rfl⟩
instance [BEq α] {a b q w:α} [Rw a q] [Rw b w]:Rw (a !=b) (q !=w):=⟨by cases Rw.e (a:=a) (b:=q);cases Rw.e (a:=b) (b:=w);rfl⟩
instance {a q:Bool} [Rw a q]:Rw (!a) (!q):=⟨by cases Rw.e (a:=a) (b:=q);rfl⟩
instance {a b q w:Bool} [Rw a q] [Rw b w]:Rw (a&&b) (q&&w):=⟨by cases Rw.e (a:=a) (b:=q);cases Rw.e (a:=b) (b:=w);rfl⟩
instance iRun {P:Program} {H:Nat->Hint} {gT:eX} {f:Nat} {a q:List SV} {l w:List (Nat×Ob)} [Rw a q] [Rw l w]:Rw (run P H gT f a l) (run P H gT f q w):=⟨by cases Rw.e (a:=a) (b:=q);cases Rw.e (a:=l) (b:=w);rfl⟩
instance iHead {P:Program} {C:mj} {H:Nat->Hint} {gT:eX} {f key:Nat} {nm:List Nat} {a q:List (Nat×SV)} {l w:List (Nat×Ob)} [Rw a q] [Rw l w]:Rw (yK P C H gT f key nm a l) (yK P C H gT f key nm q w):=⟨by cases Rw.e (a:=a) (b:=q);cases Rw.e (a:=l) (b:=w);rfl⟩
end
section
variable {T:Type} {E:T->Out}
instance mSome {x:T} {y:Out} [Rw (E x) y]:Im E (some x) (some y):=⟨Bf (Rw.e (a:=E x)).symm⟩
instance mDec {c c':Option Out} [Rw c c']:Im E (dec E c) c':=⟨by rw[<-Rw.e (a:=c) (b:=c')];exact Iz⟩
instance mCond {c c':Bool} {a b:Option Out} {q w:Option T} [Rw c' c] [Im E q a] [Im E w b]:Im E (bif c' then q else w) (bif c then a else b):=⟨vW (Rw.e (a:=c')).symm (Im.p (t:=q)) (Im.p (t:=w))⟩
instance mCheck {p q:Prop} [Decidable q] [Rw q p] [Decidable p] {a:Option Out} {w:Option T} [Im E w a]:Im E (check q w) (check p a):=⟨jW (λh=>by rw[<-Rw.e (a:=q) (b:=p)];exact h) (Im.p (t:=w))⟩
instance mGetK {α:Type} {enc:α->List AV} {l:List α} [En l enc] [fB enc] {L:List (List AV)} [Rw (l.map enc) L] {i q:Int} [Rw q i] {k:α->Option Out} {k':α->Option T} [h:∀x,Im E (k' (tl enc x)) (k x)]:Im E (bp l q k') (bp L i λc=>sj enc c k):=⟨afX (Rw.e (a:=l.map enc)).symm (Rw.e (a:=q)).symm λx=>(h x).p⟩
instance mGetN {α:Type} {enc:α->List AV} {l:List α} [En l enc] [fB enc] {L:List (List AV)} [Rw (l.map enc) L] {i q:Nat} [Rw q i] {k:α->Option Out} {k':α->Option T} [h:∀x,Im E (k' (tl enc x)) (k x)]:Im E (ef l q k') (ef L i λc=>sj enc c k):=⟨afY (Rw.e (a:=l.map enc)).symm (Rw.e (a:=q)).symm λx=>(h x).p⟩
instance mGetb {l:List UInt8} {i q:Int} [Rw q i] {k:UInt8->Option Out} {k':UInt8->Option T} [∀x,Im E (k' x) (k x)]:Im E (bp l q k') (bp l i k):=⟨by rw[Rw.e (a:=q) (b:=i)];exact I_getb λx=>Im.p (t:=k' x)⟩
instance mCall {U:Type} {enc:U->AV} [fB enc] {c c':Option Out} [Rw c' c] {k:U->Option Out} {k':U->Option T} [h:∀y,Im E (k' (tg enc y)) (k y)]:Im E (Option.bind (dec (EN enc) c') k') (yE c λr=>sj enc r k):=⟨by rw[Rw.e (a:=c') (b:=c)];exact Ik λy=>(h y).p⟩
end
section
variable {α β:Type}
def pA (enc:α->List AV):α->AV:=λx=> .agg (enc x)
def pL (n:Nat) (enc:α->List AV):List α->AV:=λx=> .dK n (x.map enc)
def pP (f:α->AV) (g:β->AV):α×β->AV:=λx=> .gy [f x.1,g x.2]
def pT {q:Type} (f:α->AV) (g:β->AV) (h:q->AV):α×β×q->AV:=λx=> .gy [f x.1,g x.2.1,h x.2.2]
def pW (e n:Nat) (enc:α->List AV):List α->AV:=λx=> .gy [.gy [.self e, .dK n (x.map enc)]]
def pM (f:α->AV) (g:β->AV):List (α×β)->AV:=λx=> .mp (fu ⟨α,f⟩ ⟨β,g⟩ x).1 (fu ⟨α,f⟩ ⟨β,g⟩ x).2
def pF (n:Nat) (enc:α->List AV):List α->AV:=λx=> .fn n [.ref [.dK 2 (x.map enc)]]
def pU:Unit->AV:=λ_=> .gy []
variable {f:α->AV} {g:β->AV} {enc:α->List AV} {n e:Nat}
instance {k:IntKind}:fB (AV.int k):=⟨λa b h=>by injection h⟩
instance:fB AV.bool:=⟨λa b h=>by injection h⟩
instance:fB AV.str:=⟨λa b h=>by injection h⟩
instance:fB AV.self:=⟨λa b h=>by injection h⟩
instance:fB pU:=⟨λ_ _ _=>rfl⟩
instance [fB enc]:fB (pA enc):=⟨λa b h=>by injection h with h;exact fB.inj _ _ h⟩
instance [fB enc]:fB (pL n enc):=⟨λa b h=>by injection h with _ h;exact map_inj fB.inj _ _ h⟩
instance [fB f] [fB g]:fB (pP f g):=⟨λa b h=>by
 simp only[pP,AV.gy.injEq,c9,eN] at h
 exact qq (fB.inj _ _ h.1) (fB.inj _ _ h.2)⟩
instance [fB enc]:fB (pW e n enc):=⟨λa b h=>by
 simp only[pW,AV.gy.injEq,c9,AV.dK.injEq,eS,eN] at h
 exact map_inj fB.inj _ _ h⟩
instance [fB enc]:fB (pF n enc):=⟨λa b h=>by
 simp only[pF,AV.fn.injEq,AV.ref.injEq,c9,AV.dK.injEq,eS,eN] at h
 exact map_inj fB.inj _ _ h⟩
instance [i:fB f] [j:fB g]:fB (pM f g):=⟨λa b h=>by injection h with q w;exact @wq ⟨α,f⟩ ⟨β,g⟩ i j _ _ q w⟩
instance {l:List α} {L:List (List AV)} [Rw (l.map enc) L]:Rw (pL n enc l) (.dK n L):=⟨by cases Rw.e (a:=l.map enc) (b:=L);rfl⟩
instance {x:α} {y:β} {a b:AV} [Rw (f x) a] [Rw (g y) b]:Rw (pP f g (x,y)) (.gy [a,b]):=⟨by cases Rw.e (a:=f x) (b:=a);cases Rw.e (a:=g y) (b:=b);rfl⟩
instance {x:List α}:En (tg (pL n enc) x) enc:=⟨⟩
instance {x:List α×β}:En (tg (pP (pL n enc) g) x).1 enc:=⟨⟩
instance {q:Type} {h:q->AV} [fB f] [fB g] [fB h]:fB (pT f g h):=⟨λa b e=>by
 simp only[pT,AV.gy.injEq,c9,eN] at e
 exact qq (fB.inj _ _ e.1) (qq (fB.inj _ _ e.2.1) (fB.inj _ _ e.2.2))⟩
instance {q:Type} {h:q->AV} {x:α} {y:β} {z:q} {a b c:AV} [Rw (f x) a] [Rw (g y) b] [Rw (h z) c]:Rw (pT f g h (x,y,z)) (.gy [a,b,c]):=⟨by cases Rw.e (a:=f x) (b:=a);cases Rw.e (a:=g y) (b:=b);cases Rw.e (a:=h z) (b:=c);rfl⟩
instance {q:Type} {h:q->AV} {x:β×List α×q}:En (tg (pT g (pL n enc) h) x).2.1 enc:=⟨⟩
instance {x:β×List α}:En (tg (pP g (pL n enc)) x).2 enc:=⟨⟩
end
structure De0 where
 e:List (Nat×Ob)
 r:List (Nat×Ob)->Option Out->Option Out
 ok:∀k,r e k=k
structure De (T:Type) where
 e:T->List (Nat×Ob)
 r:List (Nat×Ob)->(T->Option Out)->Option Out
 ok:∀x k,r (e x) k=k x
structure It (α:Type) where
 e:α->Ob
 r:Ob->(α->Option Out)->Option Out
 ok:∀x k,r (e x) k=k x
noncomputable section
def unc (q:Nat) (o:Ob) (l:List (Nat×Ob)) (k:Ob->List (Nat×Ob)->Option Out):mZ q ((q,o)::l) k=k o l:=by unfold mZ;simp
def smk (o:Ob) (k:Option Out):wW o o k=k:=by unfold wW;simp
def dZ:De0:=⟨[],Qa,λk=>by unfold Qa;rfl⟩
def dS (q:Nat) (w:Ob) (z:De0):De0:=⟨(q,w)::z.e,λl k=>mZ q l λo l=>wW o w (z.r l k),λk=>by rw[unc,smk,z.ok]⟩
def iR {α:Type} (e q:Nat) (enc:α->List AV) [fB enc]:It (List α):=⟨λxs=> .row e q (xs.map enc),λo k=>C8 e q o λc=>sj (List.map enc) c k,λx k=>by unfold C8;simp[kO]⟩
def iM (w q:Nat) (K V:vV) [fB K.enc] [fB V.enc]:It (List (K.T×V.T)):=⟨λl=> .mp w q (fu K V l).1 (fu K V l).2,λo k=>Sf w q o λc=>sj (fu K V) c k,λx k=>by unfold Sf;simp[kO]⟩
section
variable {α T:Type}
def dT (q:Nat) (w:Ob) (d:De T):De T:=⟨λx=>(q,w)::d.e x,λl k=>mZ q l λo l=>wW o w (d.r l k),λx k=>by rw[unc,smk,d.ok]⟩
def dI (q:Nat) (i:It α) (d:De T):De (α×T):=⟨λx=>(q,i.e x.1)::d.e x.2,λl k=>mZ q l λo l=>i.r o λx=>d.r l λy=>k (x,y),λx k=>by rw[unc,i.ok,d.ok]⟩
def dJ (q:Nat) (i:It α) (z:De0):De α:=⟨λx=>(q,i.e x)::z.e,λl k=>mZ q l λo l=>i.r o λx=>z.r l (k x),λx k=>by rw[unc,i.ok,z.ok]⟩
variable {U:Type}
def eD (Q:U->AV) (d:De T):U×T->Out:=λx=>(Q x.1,d.e x.2)
def eZ (Q:U->AV) (z:De0):U->Out:=λx=>(Q x,z.e)
def eR {V:Type} (Q:U->AV) (q e w:Nat) (enc:V->List AV):U×List V->Out:=λx=>(Q x.1,[(q, .row e w (x.2.map enc))])
instance {V:Type} {Q:U->AV} {nm e sz:Nat} {enc:V->List AV} {x:U} {l:List V} {a:AV} {L:List (List AV)} [Rw (Q x) a] [Rw (l.map enc) L]:Rw (eR Q nm e sz enc (x,l)) (a,[(nm, .row e sz L)]):=⟨by cases Rw.e (a:=Q x) (b:=a);cases Rw.e (a:=l.map enc) (b:=L);rfl⟩
class RwI {V:Type} (i:It V) (x:V) (o:outParam Ob):Prop where
 e:i.e x=o
class RwD {V:Type} (d:De V) (x:V) (l:outParam (List (Nat×Ob))):Prop where
 e:d.e x=l
instance (priority:=low) {i:It α} {x:α}:RwI i x (i.e x):=⟨rfl⟩
instance {V:Type} {e sz:Nat} {enc:V->List AV} [fB enc] {l:List V} {L:List (List AV)} [j:Rw (l.map enc) L]:RwI (iR e sz enc) l (.row e sz L):=⟨by rw[<-j.e];rfl⟩
instance {nm:Nat} {q:Ob} {d:De T} {w:T} {l:List (Nat×Ob)} [j:RwD d w l]:RwD (dT nm q d) w ((nm,q)::l):=⟨by rw[<-j.e];rfl⟩
instance {nm:Nat} {i:It α} {d:De T} {x:α} {w:T} {o:Ob} {l:List (Nat×Ob)} [k:RwI i x o] [j:RwD d w l]:RwD (dI nm i d) (x,w) ((nm,o)::l):=⟨by rw[<-j.e,<-k.e];rfl⟩
instance {nm:Nat} {i:It α} {z:De0} {x:α} {o:Ob} [k:RwI i x o]:RwD (dJ nm i z) x ((nm,o)::z.e):=⟨by rw[<-k.e];rfl⟩
instance {Q:U->AV} {d:De T} {x:U} {w:T} {a:AV} {l:List (Nat×Ob)} [i:Rw (Q x) a] [j:RwD d w l]:Rw (eD Q d (x,w)) (a,l):=⟨by rw[<-i.e,<-j.e];rfl⟩
def De.inj (d:De T) {a b:T} (h:d.e a=d.e b):a=b:=by
 have q:=d.ok a λx=>open Classical in if x=a then some (.lY,[]) else none
 rw[h,d.ok] at q;simp at q;exact q.symm
instance {Q:U->AV} [fB Q] {d:De T}:fB (eD Q d):=⟨λa b h=>qq (fB.inj _ _ (aU Prod.fst h)) (d.inj (aU Prod.snd h))⟩
instance {Q:U->AV} [fB Q] {z:De0}:fB (eZ Q z):=⟨λa b h=>fB.inj _ _ (aU Prod.fst h)⟩
instance {V:Type} {Q:U->AV} [fB Q] {nm e sz:Nat} {enc:V->List AV} [fB enc]:fB (eR Q nm e sz enc):=⟨λa b h=>by
 simp only[eR,ck,c9,Ob.row.injEq,eS,eN] at h
 exact qq (fB.inj _ _ h.1) (map_inj fB.inj _ _ h.2)⟩
end
end
section
variable {T U W:Type} {E:T->Out} {Q:U->AV} [fB Q] {c c':Option Out}
def I_D {d:De W} {k:U->W->Option Out} {k':U×W->Option T} (h:∀y w,lV E (k y w) (k' (y,w))):lV E (yF c λr l=>d.r l λw=>sj Q r λy=>k y w) (Option.bind (dec (eD Q d) c) k'):=
 OH (jN _ _) λy=>by simp only[eD,d.ok,kO];exact h _ _
instance mCallZ {z:De0} [Rw c' c] {k:U->Option Out} {k':U->Option T} [h:∀y,Im E (k' (tg Q y)) (k y)]:Im E (Option.bind (dec (eZ Q z) c') k') (yF c λr l=>z.r l (sj Q r k)):=⟨by
 rw[Rw.e (a:=c') (b:=c)];exact OH (jN _ _) λy=>by simp only[eZ,z.ok,kO];exact(h y).p⟩
instance mCall3 {q z:Type} {d:De (q×z)} [Rw c' c] {k:U->q->z->Option Out} {k':U->q->z->Option T} [h:∀y B D,Im E (k' (tg Q y) B D) (k y B D)]:Im E (eO (dec (eD Q d) c') k') (yF c λr l=>d.r l λw=>sj Q r λy=>k y w.1 w.2):=⟨by
 rw[Rw.e (a:=c') (b:=c)];exact I_D λy w=>(h y w.1 w.2).p⟩
instance mCall4 {q z B:Type} {d:De (q×z×B)} [Rw c' c] {k:U->q->z->B->Option Out} {k':U->q->z->B->Option T} [h:∀y D F G,Im E (k' (tg Q y) D F G) (k y D F G)]:Im E (nx (dec (eD Q d) c') k') (yF c λr l=>d.r l λw=>sj Q r λy=>k y w.1 w.2.1 w.2.2):=⟨by
 rw[Rw.e (a:=c') (b:=c)];exact I_D λy w=>(h y w.1 w.2.1 w.2.2).p⟩
instance mCall5 {q z B D:Type} {d:De (q×z×B×D)} [Rw c' c] {k:U->q->z->B->D->Option Out} {k':U->q->z->B->D->Option T} [h:∀y F G H I,Im E (k' (tg Q y) F G H I) (k y F G H I)]:Im E (HP (dec (eD Q d) c') k') (yF c λr l=>d.r l λw=>sj Q r λy=>k y w.1 w.2.1 w.2.2.1 w.2.2.2):=⟨by
 rw[Rw.e (a:=c') (b:=c)];exact I_D λy w=>(h y w.1 w.2.1 w.2.2.1 w.2.2.2).p⟩
instance mCall6 {q z B D F:Type} {d:De (q×z×B×D×F)} [Rw c' c] {k:U->q->z->B->D->F->Option Out} {k':U->q->z->B->D->F->Option T} [h:∀y G H I K L,Im E (k' (tg Q y) G H I K L) (k y G H I K L)]:Im E (Sh (dec (eD Q d) c') k') (yF c λr l=>d.r l λw=>sj Q r λy=>k y w.1 w.2.1 w.2.2.1 w.2.2.2.1 w.2.2.2.2):=⟨by
 rw[Rw.e (a:=c') (b:=c)];exact I_D λy w=>(h y w.1 w.2.1 w.2.2.1 w.2.2.2.1 w.2.2.2.2).p⟩
instance mCallR {V:Type} {nm e sz:Nat} {ee:V->List AV} [fB ee] [Rw c' c] {k:U->List V->Option Out} {k':U->List V->Option T} [h:∀y w,Im E (k' (tg Q y) (tw ee w)) (k y w)]:Im E (qQ (dec (eR Q nm e sz ee) c') k') (HR c nm e sz λr c2=>sj Q r λy=>sj (List.map ee) c2 λxs=>k y xs):=⟨by
 rw[Rw.e (a:=c') (b:=c)];exact Er (jN _ _) λy w=>(h y w).p⟩
instance:EnR Int (AV.int .i64):=⟨⟩
instance:EnR Bool AV.bool:=⟨⟩
instance:EnR (List UInt8) AV.str:=⟨⟩
end
section
variable {T:Type} {E:T->Out} {κ ν:Type} {f:κ->AV} {g:ν->AV} {l:List (κ×ν)} {key:κ} {a:AV}
instance mLook [EnR κ f] [EnR ν g] [IZ ⟨κ,f⟩] [i:fB g] [Rw (f key) a] {k:ν->Option Out} {k':ν->Option T} {z:Option Out} {q:Option T} [h:∀y,Im E (k' (tg g y)) (k y)] [Im E q z]:Im E (tD l key k' q) (NV (WI a (fu ⟨κ,f⟩ ⟨ν,g⟩ l).1 (fu ⟨κ,f⟩ ⟨ν,g⟩ l).2) (λv=>sj g v k) z):=⟨by
 rw[<-Rw.e (a:=f key) (b:=a)];exact @I_look T E ⟨κ,f⟩ ⟨ν,g⟩ _ i l key k k' z q (λy=>(h y).p) Im.p⟩
instance mPut [EnR κ f] [EnR ν g] [IZ ⟨κ,f⟩] [i:fB g] [Rw (f key) a] [j:fB f] {v:ν} {b:AV} [Rw (g v) b] {k:List (κ×ν)->Option Out} {k':List (κ×ν)->Option T} [h:∀m,Im E (k' m) (k m)]:Im E (yg (uz l key v) k') (W8 (D5 a b (fu ⟨κ,f⟩ ⟨ν,g⟩ l).1 (fu ⟨κ,f⟩ ⟨ν,g⟩ l).2) λp=>sj (fu ⟨κ,f⟩ ⟨ν,g⟩) p k):=⟨by
 rw[<-Rw.e (a:=f key) (b:=a)];exact @I_put T E ⟨κ,f⟩ ⟨ν,g⟩ _ j i l key b v k k' (Rw.e (a:=g v)).symm λm=>(h m).p⟩
instance [EnR κ f] [EnR ν g]:Rw l.length (fu ⟨κ,f⟩ ⟨ν,g⟩ l).1.length:=⟨by simp[fu]⟩
end
def Vn {α:Type} {enc:α->List AV} [fB enc] {t:TypeId} {pre:List SV} {q:Nat} {x:List α} {k:List α->Option Out}:(Ka t pre q (.box t (pre++[.pv (.dK q (List.map enc x))])) λc=>sj (List.map enc) c k)=k x:=by
 have key:∀w:List (List AV),Ob.box t (pre++[.pv (.dK q (List.map enc x))])= .box t (pre++[.pv (.dK q w)])->List.map enc x=w:=by intro w e;simp only[Ob.box.injEq,eS] at e;have e:=List.append_cancel_left e;simpa only[c9,SV.pv.injEq,AV.dK.injEq,eS,eN] using e
 have h:∃xs,Ob.box t (pre++[.pv (.dK q (List.map enc x))])= .box t (pre++[.pv (.dK q xs)]):=⟨_,rfl⟩
 unfold Ka;rw[lC h,<-key _ h.choose_spec];show sj (List.map enc) (List.map enc x) k=k x;rw[kO]
noncomputable def iL {α:Type} (t:TypeId) (pre:List SV) (q:Nat) (enc:α->List AV) [fB enc]:It (List α):=⟨λxs=> .box t (pre++[.pv (.dK q (xs.map enc))]),λo k=>Ka t pre q o λc=>sj (List.map enc) c k,λ_ _=>Vn⟩
class Gn {α:Type} (G:α->Out):Prop
class U7 {α:Type} (l:List α) (f g:outParam (α->List AV)):Prop where
 e:f=g
section
variable {T:Type} {E:T->Out} {c c':Option Out}
instance mGetX {α:Type} {f g:α->List AV} {l:List α} [x:U7 l f g] [fB g] {i q:Int} [Rw q i] {k:α->Option Out} {k':α->Option T} [h:∀x,Im E (k' (tl g x)) (k x)]:Im E (bp l q k') (bp (l.map f) i λr=>sj g r k):=⟨by
 rw[Rw.e (a:=q) (b:=i)];exact IgX x.e λx=>(h x).p⟩
variable [Rw c' c]
instance mGen {U:Type} {G:U->Out} [Gn G] [fB G] {k:U->Option Out} {k':U->Option T} [h:∀y,Im E (k' y) (k y)]:Im E (Option.bind (dec G c') k') (MX G c k):=⟨by
 rw[Rw.e (a:=c') (b:=c)];exact Be (jN _ _) λy=>(h y).p⟩
instance mGen2 {U V:Type} {G:U×V->Out} [Gn G] [fB G] {k:U->V->Option Out} {k':U->V->Option T} [h:∀y v,Im E (k' y v) (k y v)]:Im E (qQ (dec G c') k') (genK2 G c k):=⟨by
 rw[Rw.e (a:=c') (b:=c)];exact Gq (jN _ _) λy v=>(h y v).p⟩
instance mGen3 {U V W:Type} {G:U×V×W->Out} [Gn G] [fB G] {k:U->V->W->Option Out} {k':U->V->W->Option T} [h:∀y v w,Im E (k' y v w) (k y v w)]:Im E (eO (dec G c') k') (genK3 G c k):=⟨by
 rw[Rw.e (a:=c') (b:=c)];exact JW (jN _ _) λy v w=>(h y v w).p⟩
instance mGen4 {U V W X:Type} {G:U×V×W×X->Out} [Gn G] [fB G] {k:U->V->W->X->Option Out} {k':U->V->W->X->Option T} [h:∀y v w x,Im E (k' y v w x) (k y v w x)]:Im E (nx (dec G c') k') (genK4 G c k):=⟨by
 rw[Rw.e (a:=c') (b:=c)];exact Vf (jN _ _) λy v w x=>(h y v w x).p⟩
instance mGen5 {U V W X Y:Type} {G:U×V×W×X×Y->Out} [Gn G] [fB G] {k:U->V->W->X->Y->Option Out} {k':U->V->W->X->Y->Option T} [h:∀y v w x z,Im E (k' y v w x z) (k y v w x z)]:Im E (HP (dec G c') k') (genK5 G c k):=⟨by
 rw[Rw.e (a:=c') (b:=c)];exact I_gen5 (jN _ _) λy v w x z=>(h y v w x z).p⟩
end
