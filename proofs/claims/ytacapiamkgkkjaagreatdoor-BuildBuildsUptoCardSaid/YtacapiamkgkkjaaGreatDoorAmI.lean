/- THE ABSTRACT MACHINE. -/
import Derived.Test.YtacapiamkgkkjaaGreatDoorAmP
set_option linter.all false
set_option synthInstance.maxSize 100000
set_option synthInstance.maxHeartbeats 1000000
namespace Go.AM
universe u v
class Rw {α:Sort u} (a:α) (b:outParam α):Prop where
 e:a=b
class IL (α:Type) (enc:outParam (α->List AV)):Prop
class En {α:Type} (l:List α) (enc:outParam (α->List AV)):Prop
def tl {α:Type} (enc:α->List AV) (x:α):α:=x
def tg {α:Type} (enc:α->AV) (x:α):α:=x
def tw {α:Type} (enc:α->List AV) (x:List α):List α:=x
class Zj (α:Type) (f:outParam (α->AV)):Prop
class Im {T:Type} (E:T->Out) (t:Option T) (c:outParam (Option Out)):Prop where
 p:kV E c t
section
instance (priority:=low) iSelf {α:Sort u} (a:α):Rw a a:=⟨rfl⟩
instance (priority:=low) iEn {α:Type} {enc:α->List AV} [IL α enc] (l:List α):En l enc:=⟨⟩
instance iEnE {β:Type} {x:List β} {s:Nat} {f:β->List AV}:En (tl (mJ s f) x) f:=⟨⟩
section
variable {α:Type} {enc:α->List AV} {l m:List α}
instance [En l enc]:En (l++m) enc:=⟨⟩
instance [En l enc] {i:Nat} {x:α}:En (l.set i x) enc:=⟨⟩
instance [En l enc] {i:Nat}:En (l.take i) enc:=⟨⟩
instance [En l enc] {i:Nat}:En (l.drop i) enc:=⟨⟩
end
instance:IL Int (dX .i64):=⟨⟩
instance:IL (List UInt8) oV:=⟨⟩
instance:IL Bool VU:=⟨⟩
instance:IL (List Int) (mJ 1 (dX .i64)):=⟨⟩
instance:IL (List (List UInt8)) (mJ 1 oV):=⟨⟩
variable {α:Type u} {β:Type v}
instance iCons {a q:α} {l w:List α} [Rw a q] [Rw l w]:Rw (a::l) (q::w):=⟨by cases Rw.e (a:=a) (b:=q);cases Rw.e (a:=l) (b:=w);rfl⟩
instance iPair {a q:α} {b w:β} [Rw a q] [Rw b w]:Rw (a,b) (q,w):=⟨by cases Rw.e (a:=a) (b:=q);cases Rw.e (a:=b) (b:=w);rfl⟩
instance iSet {f:α->β} {l:List α} {L:List β} {i q:Nat} {x:α} {y:β} [Rw (l.map f) L] [Rw i q] [Rw (f x) y]:Rw ((l.set i x).map f) (L.set q y):=⟨by cases Rw.e (a:=(l.map f)) (b:=L);cases Rw.e (a:=i) (b:=q);cases Rw.e (a:=(f x)) (b:=y);exact pY ..⟩
instance iApp {f:α->β} {l m:List α} {L M:List β} [Rw (l.map f) L] [Rw (m.map f) M]:Rw ((l++m).map f) (L++M):=⟨by cases Rw.e (a:=(l.map f)) (b:=L);cases Rw.e (a:=(m.map f)) (b:=M);exact bZ ..⟩
instance iMc {f:α->β} {x:α} {y:β} {l:List α} {L:List β} [Rw (f x) y] [Rw (l.map f) L]:Rw ((x::l).map f) (y::L):=⟨by cases Rw.e (a:=(f x)) (b:=y);cases Rw.e (a:=(l.map f)) (b:=L);rfl⟩
instance iMn {f:α->β}:Rw (([]:List α).map f) []:=⟨rfl⟩
instance iTake {f:α->β} {l:List α} {L:List β} {n q:Nat} [Rw (l.map f) L] [Rw n q]:Rw ((l.take n).map f) (L.take q):=⟨by cases Rw.e (a:=(l.map f)) (b:=L);cases Rw.e (a:=n) (b:=q);exact List.map_take ..⟩
instance iDrop {f:α->β} {l:List α} {L:List β} {n q:Nat} [Rw (l.map f) L] [Rw n q]:Rw ((l.drop n).map f) (L.drop q):=⟨by cases Rw.e (a:=(l.map f)) (b:=L);cases Rw.e (a:=n) (b:=q);exact lS ..⟩
instance iRep {f:α->β} {n q:Nat} {x:α} {y:β} [Rw n q] [Rw (f x) y]:Rw ((List.replicate n x).map f) (List.replicate q y):=⟨by cases Rw.e (a:=n) (b:=q);cases Rw.e (a:=(f x)) (b:=y);exact uF ..⟩
instance iELst {U:Type} {s:Nat} {f:U->List AV} {l:List U} {L:List (List AV)} [Rw (l.map f) L]:Rw (mJ s f l) [.dy s L]:=⟨by cases Rw.e (a:=(l.map f)) (b:=L);rfl⟩
instance iEInt {k:IntKind} {x y:Int} [Rw x y]:Rw (dX k x) [.int k y]:=⟨by cases Rw.e (a:=x) (b:=y);rfl⟩
instance {x y:AV} [Rw x y]:Rw (SV.pv x) (.pv y):=⟨by cases Rw.e (a:=x) (b:=y);rfl⟩
instance {k:IntKind} {x y:Int} [Rw x y]:Rw (AV.int k x) (.int k y):=⟨by cases Rw.e (a:=x) (b:=y);rfl⟩
instance {s:Nat} {x y:List (List AV)} [Rw x y]:Rw (AV.dy s x) (.dy s y):=⟨by cases Rw.e (a:=x) (b:=y);rfl⟩
instance {x y:Nat} [Rw x y]:Rw (AV.self x) (.self y):=⟨by cases Rw.e (a:=x) (b:=y);rfl⟩
instance {x y:List AV} [Rw x y]:Rw (AV.agg x) (.agg y):=⟨by cases Rw.e (a:=x) (b:=y);rfl⟩
instance {x y:List AV} [Rw x y]:Rw (AV.gM x) (.gM y):=⟨by cases Rw.e (a:=x) (b:=y);rfl⟩
instance {x y:Bool} [Rw x y]:Rw (AV.bool x) (.bool y):=⟨by cases Rw.e (a:=x) (b:=y);rfl⟩
instance {x y:List UInt8} [Rw x y]:Rw (AV.str x) (.str y):=⟨by cases Rw.e (a:=x) (b:=y);rfl⟩
instance {i s a b c d:Nat} [Rw a c] [Rw b d]:Rw (SV.sub i s a b) (.sub i s c d):=⟨by cases Rw.e (a:=a) (b:=c);cases Rw.e (a:=b) (b:=d);rfl⟩
instance {e s:Nat} {x y:List (List AV)} [Rw x y]:Rw (Ob.row e s x) (.row e s y):=⟨by cases Rw.e (a:=x) (b:=y);rfl⟩
instance {e:Nat} {x y:List SV} [Rw x y]:Rw (Ob.box e x) (.box e y):=⟨by cases Rw.e (a:=x) (b:=y);rfl⟩
instance {U:Type} {Q:U->AV} {x:U} {a:AV} [Rw (Q x) a]:Rw (EN Q x) (a,[]):=⟨by cases Rw.e (a:=Q x) (b:=a);rfl⟩
instance iLen {U:Type} {l:List U} {enc:U->List AV} {L:List (List AV)} [En l enc] [Rw (l.map enc) L]:Rw l.length L.length:=⟨by cases Rw.e (a:=(l.map enc)) (b:=L);exact(bC ..).symm⟩
instance {x y:Nat} [Rw x y]:Rw (x:Int) (y:Int):=⟨by cases Rw.e (a:=x) (b:=y);rfl⟩
instance {x y:Int} [Rw x y]:Rw (Int.toNat x) (Int.toNat y):=⟨by cases Rw.e (a:=x) (b:=y);rfl⟩
instance {k:IntKind} {x y:Int} [Rw x y]:Rw (IntKind.wrap k x) (IntKind.wrap k y):=⟨by cases Rw.e (a:=x) (b:=y);rfl⟩
instance [HAdd α α α] {a b q w:α} [Rw a q] [Rw b w]:Rw (a+b) (q+w):=⟨by cases Rw.e (a:=a) (b:=q);cases Rw.e (a:=b) (b:=w);rfl⟩
instance [HSub α α α] {a b q w:α} [Rw a q] [Rw b w]:Rw (a-b) (q-w):=⟨by cases Rw.e (a:=a) (b:=q);cases Rw.e (a:=b) (b:=w);rfl⟩
instance [HMul α α α] {a b q w:α} [Rw a q] [Rw b w]:Rw (a *b) (q *w):=⟨by cases Rw.e (a:=a) (b:=q);cases Rw.e (a:=b) (b:=w);rfl⟩
instance [LT α] {a b q w:α} [Rw a q] [Rw b w]:Rw (a<b) (q<w):=⟨by cases Rw.e (a:=a) (b:=q);cases Rw.e (a:=b) (b:=w);rfl⟩
instance [LE α] {a b q w:α} [Rw a q] [Rw b w]:Rw (a<=b) (q<=w):=⟨by cases Rw.e (a:=a) (b:=q);cases Rw.e (a:=b) (b:=w);rfl⟩
instance [LT α] {a b q w:α} [Rw a q] [Rw b w]:Rw (a>b) (q>w):=⟨by cases Rw.e (a:=a) (b:=q);cases Rw.e (a:=b) (b:=w);rfl⟩
instance [LE α] {a b q w:α} [Rw a q] [Rw b w]:Rw (a>=b) (q>=w):=⟨by cases Rw.e (a:=a) (b:=q);cases Rw.e (a:=b) (b:=w);rfl⟩
instance {a b q w:α} [Rw a q] [Rw b w]:Rw (a=b) (q=w):=⟨by cases Rw.e (a:=a) (b:=q);cases Rw.e (a:=b) (b:=w);rfl⟩
instance {p q w z:Prop} [Rw p w] [Rw q z]:Rw (p/\q) (w/\z):=⟨by cases Rw.e (a:=p) (b:=w);cases Rw.e (a:=q) (b:=z);rfl⟩
instance {p q:Prop} [Rw p q] [i:Decidable p] [j:Decidable q]:Rw (decide p) (decide q):=⟨by
 cases Rw.e (a:=p) (b:=q);congr⟩
instance [BEq α] {a b q w:α} [Rw a q] [Rw b w]:Rw (a==b) (q==w):=⟨by cases Rw.e (a:=a) (b:=q);cases Rw.e (a:=b) (b:=w);rfl⟩
instance [BEq α] {a b q w:α} [Rw a q] [Rw b w]:Rw (a !=b) (q !=w):=⟨by cases Rw.e (a:=a) (b:=q);cases Rw.e (a:=b) (b:=w);rfl⟩
instance {a q:Bool} [Rw a q]:Rw (!a) (!q):=⟨by cases Rw.e (a:=a) (b:=q);rfl⟩
instance {a b q w:Bool} [Rw a q] [Rw b w]:Rw (a&&b) (q&&w):=⟨by cases Rw.e (a:=a) (b:=q);cases Rw.e (a:=b) (b:=w);rfl⟩
instance iRun {P:Program} {H:Nat->Hint} {gL:eM} {f:Nat} {a q:List SV} {l w:List (Nat×Ob)} [Rw a q] [Rw l w]:Rw (run P H gL f a l) (run P H gL f q w):=⟨by cases Rw.e (a:=a) (b:=q);cases Rw.e (a:=l) (b:=w);rfl⟩
instance iHead {P:Program} {C:lH} {H:Nat->Hint} {gL:eM} {f key:Nat} {nm:List Nat} {a q:List (Nat×SV)} {l w:List (Nat×Ob)} [Rw a q] [Rw l w]:Rw (zX P C H gL f key nm a l) (zX P C H gL f key nm q w):=⟨by cases Rw.e (a:=a) (b:=q);cases Rw.e (a:=l) (b:=w);rfl⟩
end
section
variable {T:Type} {E:T->Out}
instance mSome {x:T} {y:Out} [Rw (E x) y]:Im E (some x) (some y):=⟨yB (Rw.e (a:=E x)).symm⟩
instance mDec {c c':Option Out} [Rw c c']:Im E (dec E c) c':=⟨by rw[<-Rw.e (a:=c) (b:=c')];exact Iz⟩
instance mCond {c c':Bool} {a b:Option Out} {q w:Option T} [Rw c' c] [Im E q a] [Im E w b]:Im E (bif c' then q else w) (bif c then a else b):=⟨sH (Rw.e (a:=c')).symm (Im.p (t:=q)) (Im.p (t:=w))⟩
instance mCheck {p q:Prop} [Decidable q] [Rw q p] [Decidable p] {a:Option Out} {w:Option T} [Im E w a]:Im E (check q w) (check p a):=⟨kG (λh=>by rw[<-Rw.e (a:=q) (b:=p)];exact h) (Im.p (t:=w))⟩
instance mGetK {α:Type} {enc:α->List AV} {l:List α} [En l enc] [eO enc] {L:List (List AV)} [Rw (l.map enc) L] {i q:Int} [Rw q i] {k:α->Option Out} {k':α->Option T} [h:∀x,Im E (k' (tl enc x)) (k x)]:Im E (bB l q k') (bB L i λc=>rP enc c k):=⟨adz (Rw.e (a:=l.map enc)).symm (Rw.e (a:=q)).symm λx=>(h x).p⟩
instance mGetN {α:Type} {enc:α->List AV} {l:List α} [En l enc] [eO enc] {L:List (List AV)} [Rw (l.map enc) L] {i q:Nat} [Rw q i] {k:α->Option Out} {k':α->Option T} [h:∀x,Im E (k' (tl enc x)) (k x)]:Im E (eH l q k') (eH L i λc=>rP enc c k):=⟨adA (Rw.e (a:=l.map enc)).symm (Rw.e (a:=q)).symm λx=>(h x).p⟩
instance mGetb {l:List UInt8} {i q:Int} [Rw q i] {k:UInt8->Option Out} {k':UInt8->Option T} [∀x,Im E (k' x) (k x)]:Im E (bB l q k') (bB l i k):=⟨by rw[Rw.e (a:=q) (b:=i)];exact I_getb λx=>Im.p (t:=k' x)⟩
instance mCall {U:Type} {enc:U->AV} [eO enc] {c c':Option Out} [Rw c' c] {k:U->Option Out} {k':U->Option T} [h:∀y,Im E (k' (tg enc y)) (k y)]:Im E (Option.bind (dec (EN enc) c') k') (xL c λr=>rP enc r k):=⟨by rw[Rw.e (a:=c') (b:=c)];exact Ik λy=>(h y).p⟩
end
section
variable {α β:Type}
def pA (enc:α->List AV):α->AV:=λx=> .agg (enc x)
def pL (n:Nat) (enc:α->List AV):List α->AV:=λx=> .dy n (x.map enc)
def pP (f:α->AV) (g:β->AV):α×β->AV:=λx=> .gM [f x.1,g x.2]
def pW (e n:Nat) (enc:α->List AV):List α->AV:=λx=> .gM [.gM [.self e, .dy n (x.map enc)]]
def pM (f:α->AV) (g:β->AV):List (α×β)->AV:=λx=> .mp (ey ⟨α,f⟩ ⟨β,g⟩ x).1 (ey ⟨α,f⟩ ⟨β,g⟩ x).2
def pF (n:Nat) (enc:α->List AV):List α->AV:=λx=> .fn n [.ref [.dy 2 (x.map enc)]]
def pU:Unit->AV:=λ_=> .gM []
variable {f:α->AV} {g:β->AV} {enc:α->List AV} {n e:Nat}
instance {k:IntKind}:eO (AV.int k):=⟨λa b h=>by injection h⟩
instance:eO AV.bool:=⟨λa b h=>by injection h⟩
instance:eO AV.str:=⟨λa b h=>by injection h⟩
instance:eO AV.self:=⟨λa b h=>by injection h⟩
instance:eO pU:=⟨λ_ _ _=>rfl⟩
instance [eO enc]:eO (pA enc):=⟨λa b h=>by injection h with h;exact eO.inj _ _ h⟩
instance [eO enc]:eO (pL n enc):=⟨λa b h=>by injection h with _ h;exact map_inj eO.inj _ _ h⟩
instance [eO f] [eO g]:eO (pP f g):=⟨λa b h=>by
 simp only[pP,AV.gM.injEq,cg,c9] at h
 exact Prod.ext (eO.inj _ _ h.1) (eO.inj _ _ h.2)⟩
instance [eO enc]:eO (pW e n enc):=⟨λa b h=>by
 simp only[pW,AV.gM.injEq,cg,AV.dy.injEq,cR,c9] at h
 exact map_inj eO.inj _ _ h⟩
instance [eO enc]:eO (pF n enc):=⟨λa b h=>by
 simp only[pF,AV.fn.injEq,AV.ref.injEq,cg,AV.dy.injEq,cR,c9] at h
 exact map_inj eO.inj _ _ h⟩
instance [i:eO f] [j:eO g]:eO (pM f g):=⟨λa b h=>by injection h with q w;exact @za ⟨α,f⟩ ⟨β,g⟩ i j _ _ q w⟩
instance {l:List α} {L:List (List AV)} [Rw (l.map enc) L]:Rw (pL n enc l) (.dy n L):=⟨by cases Rw.e (a:=l.map enc) (b:=L);rfl⟩
instance {x:α} {y:β} {a b:AV} [Rw (f x) a] [Rw (g y) b]:Rw (pP f g (x,y)) (.gM [a,b]):=⟨by cases Rw.e (a:=f x) (b:=a);cases Rw.e (a:=g y) (b:=b);rfl⟩
instance {x:List α}:En (tg (pL n enc) x) enc:=⟨⟩
instance {x:List α×β}:En (tg (pP (pL n enc) g) x).1 enc:=⟨⟩
instance {x:β×List α}:En (tg (pP g (pL n enc)) x).2 enc:=⟨⟩
end
structure De0 where
 e:List (Nat×Ob)
 r:List (Nat×Ob)->Option Out->Option Out
 ok:∀k,r e k=k
structure De (T:Type) where
 e:T->List (Nat×Ob)
 r:List (Nat×Ob)->(T->Option Out)->Option Out
 ok:∀x k,r (e x) k=k x
structure It (α:Type) where
 e:α->Ob
 r:Ob->(α->Option Out)->Option Out
 ok:∀x k,r (e x) k=k x
noncomputable section
def unc (q:Nat) (o:Ob) (l:List (Nat×Ob)) (k:Ob->List (Nat×Ob)->Option Out):qH q ((q,o)::l) k=k o l:=by unfold qH;simp
def smk (o:Ob) (k:Option Out):BA o o k=k:=by unfold BA;simp
def dZ:De0:=⟨[],Sb,λk=>by unfold Sb;rfl⟩
def iR {α:Type} (e q:Nat) (enc:α->List AV) [eO enc]:It (List α):=⟨λxs=> .row e q (xs.map enc),λo k=>Qq e q o λc=>rP (List.map enc) c k,λx k=>by unfold Qq;simp[kg]⟩
def iM (w q:Nat) (K V:ux) [eO K.enc] [eO V.enc]:It (List (K.T×V.T)):=⟨λl=> .mp w q (ey K V l).1 (ey K V l).2,λo k=>GJ w q o λc=>rP (ey K V) c k,λx k=>by unfold GJ;simp[kg]⟩
section
variable {α T:Type}
def dT (q:Nat) (w:Ob) (d:De T):De T:=⟨λx=>(q,w)::d.e x,λl k=>qH q l λo l=>BA o w (d.r l k),λx k=>by rw[unc,smk,d.ok]⟩
def dI (q:Nat) (i:It α) (d:De T):De (α×T):=⟨λx=>(q,i.e x.1)::d.e x.2,λl k=>qH q l λo l=>i.r o λx=>d.r l λy=>k (x,y),λx k=>by rw[unc,i.ok,d.ok]⟩
def dJ (q:Nat) (i:It α) (z:De0):De α:=⟨λx=>(q,i.e x)::z.e,λl k=>qH q l λo l=>i.r o λx=>z.r l (k x),λx k=>by rw[unc,i.ok,z.ok]⟩
variable {U:Type}
def eD (Q:U->AV) (d:De T):U×T->Out:=λx=>(Q x.1,d.e x.2)
def eZ (Q:U->AV) (z:De0):U->Out:=λx=>(Q x,z.e)
def eR {V:Type} (Q:U->AV) (q e w:Nat) (enc:V->List AV):U×List V->Out:=λx=>(Q x.1,[(q, .row e w (x.2.map enc))])
instance {V:Type} {Q:U->AV} {nm e sz:Nat} {enc:V->List AV} {x:U} {l:List V} {a:AV} {L:List (List AV)} [Rw (Q x) a] [Rw (l.map enc) L]:Rw (eR Q nm e sz enc (x,l)) (a,[(nm, .row e sz L)]):=⟨by cases Rw.e (a:=Q x) (b:=a);cases Rw.e (a:=l.map enc) (b:=L);rfl⟩
class RwI {V:Type} (i:It V) (x:V) (o:outParam Ob):Prop where
 e:i.e x=o
class RwD {V:Type} (d:De V) (x:V) (l:outParam (List (Nat×Ob))):Prop where
 e:d.e x=l
instance (priority:=low) {i:It α} {x:α}:RwI i x (i.e x):=⟨rfl⟩
instance {V:Type} {e sz:Nat} {enc:V->List AV} [eO enc] {l:List V} {L:List (List AV)} [j:Rw (l.map enc) L]:RwI (iR e sz enc) l (.row e sz L):=⟨by rw[<-j.e];rfl⟩
instance {nm:Nat} {q:Ob} {d:De T} {w:T} {l:List (Nat×Ob)} [j:RwD d w l]:RwD (dT nm q d) w ((nm,q)::l):=⟨by rw[<-j.e];rfl⟩
instance {nm:Nat} {i:It α} {d:De T} {x:α} {w:T} {o:Ob} {l:List (Nat×Ob)} [k:RwI i x o] [j:RwD d w l]:RwD (dI nm i d) (x,w) ((nm,o)::l):=⟨by rw[<-j.e,<-k.e];rfl⟩
instance {nm:Nat} {i:It α} {z:De0} {x:α} {o:Ob} [k:RwI i x o]:RwD (dJ nm i z) x ((nm,o)::z.e):=⟨by rw[<-k.e];rfl⟩
instance {Q:U->AV} {d:De T} {x:U} {w:T} {a:AV} {l:List (Nat×Ob)} [i:Rw (Q x) a] [j:RwD d w l]:Rw (eD Q d (x,w)) (a,l):=⟨by rw[<-i.e,<-j.e];rfl⟩
def De.inj (d:De T) {a b:T} (h:d.e a=d.e b):a=b:=by
 have q:=d.ok a λx=>open Classical in if x=a then some (.qz,[]) else none
 rw[h,d.ok] at q;simp at q;exact q.symm
instance {Q:U->AV} [eO Q] {d:De T}:eO (eD Q d):=⟨λa b h=>Prod.ext (eO.inj _ _ (aR Prod.fst h)) (d.inj (aR Prod.snd h))⟩
instance {Q:U->AV} [eO Q] {z:De0}:eO (eZ Q z):=⟨λa b h=>eO.inj _ _ (aR Prod.fst h)⟩
instance {V:Type} {Q:U->AV} [eO Q] {nm e sz:Nat} {enc:V->List AV} [eO enc]:eO (eR Q nm e sz enc):=⟨λa b h=>by
 simp only[eR,bD,cg,Ob.row.injEq,cR,c9] at h
 exact Prod.ext (eO.inj _ _ h.1) (map_inj eO.inj _ _ h.2)⟩
end
end
section
variable {T U W:Type} {E:T->Out} {Q:U->AV} [eO Q] {c c':Option Out}
def I_D {d:De W} {k:U->W->Option Out} {k':U×W->Option T} (h:∀y w,kV E (k y w) (k' (y,w))):kV E (zV c λr l=>d.r l λw=>rP Q r λy=>k y w) (Option.bind (dec (eD Q d) c) k'):=
 VI (jK _ _) λy=>by simp only[eD,d.ok,kg];exact h _ _
instance mCall3 {q z:Type} {d:De (q×z)} [Rw c' c] {k:U->q->z->Option Out} {k':U->q->z->Option T} [h:∀y B D,Im E (k' (tg Q y) B D) (k y B D)]:Im E (dU (dec (eD Q d) c') k') (zV c λr l=>d.r l λw=>rP Q r λy=>k y w.1 w.2):=⟨by
 rw[Rw.e (a:=c') (b:=c)];exact I_D λy w=>(h y w.1 w.2).p⟩
instance mCall4 {q z B:Type} {d:De (q×z×B)} [Rw c' c] {k:U->q->z->B->Option Out} {k':U->q->z->B->Option T} [h:∀y D F G,Im E (k' (tg Q y) D F G) (k y D F G)]:Im E (mH (dec (eD Q d) c') k') (zV c λr l=>d.r l λw=>rP Q r λy=>k y w.1 w.2.1 w.2.2):=⟨by
 rw[Rw.e (a:=c') (b:=c)];exact I_D λy w=>(h y w.1 w.2.1 w.2.2).p⟩
instance mCall5 {q z B D:Type} {d:De (q×z×B×D)} [Rw c' c] {k:U->q->z->B->D->Option Out} {k':U->q->z->B->D->Option T} [h:∀y F G H I,Im E (k' (tg Q y) F G H I) (k y F G H I)]:Im E (I1 (dec (eD Q d) c') k') (zV c λr l=>d.r l λw=>rP Q r λy=>k y w.1 w.2.1 w.2.2.1 w.2.2.2):=⟨by
 rw[Rw.e (a:=c') (b:=c)];exact I_D λy w=>(h y w.1 w.2.1 w.2.2.1 w.2.2.2).p⟩
instance mCall6 {q z B D F:Type} {d:De (q×z×B×D×F)} [Rw c' c] {k:U->q->z->B->D->F->Option Out} {k':U->q->z->B->D->F->Option T} [h:∀y G H I K L,Im E (k' (tg Q y) G H I K L) (k y G H I K L)]:Im E (Qt (dec (eD Q d) c') k') (zV c λr l=>d.r l λw=>rP Q r λy=>k y w.1 w.2.1 w.2.2.1 w.2.2.2.1 w.2.2.2.2):=⟨by
 rw[Rw.e (a:=c') (b:=c)];exact I_D λy w=>(h y w.1 w.2.1 w.2.2.1 w.2.2.2.1 w.2.2.2.2).p⟩
instance mCallR {V:Type} {nm e sz:Nat} {q:V->List AV} [eO q] [Rw c' c] {k:U->List V->Option Out} {k':U->List V->Option T} [h:∀y w,Im E (k' (tg Q y) (tw q w)) (k y w)]:Im E (AJ (dec (eR Q nm e sz q) c') k') (GL c nm e sz λr c2=>rP Q r λy=>rP (List.map q) c2 λxs=>k y xs):=⟨by
 rw[Rw.e (a:=c') (b:=c)];exact ady (jK _ _) λy w=>(h y w).p⟩
instance:Zj Int (AV.int .i64):=⟨⟩
instance:Zj Bool AV.bool:=⟨⟩
instance:Zj (List UInt8) AV.str:=⟨⟩
end
section
variable {T:Type} {E:T->Out} {κ ν:Type} {f:κ->AV} {g:ν->AV} {l:List (κ×ν)} {key:κ} {a:AV}
instance mLook [Zj κ f] [Zj ν g] [HG ⟨κ,f⟩] [i:eO g] [Rw (f key) a] {k:ν->Option Out} {k':ν->Option T} {z:Option Out} {q:Option T} [h:∀y,Im E (k' (tg g y)) (k y)] [Im E q z]:Im E (wM l key k' q) (MA (UP a (ey ⟨κ,f⟩ ⟨ν,g⟩ l).1 (ey ⟨κ,f⟩ ⟨ν,g⟩ l).2) (λv=>rP g v k) z):=⟨by
 rw[<-Rw.e (a:=f key) (b:=a)];exact @I_look T E ⟨κ,f⟩ ⟨ν,g⟩ _ i l key k k' z q (λy=>(h y).p) Im.p⟩
instance mPut [Zj κ f] [Zj ν g] [HG ⟨κ,f⟩] [i:eO g] [Rw (f key) a] [j:eO f] {v:ν} {b:AV} [Rw (g v) b] {k:List (κ×ν)->Option Out} {k':List (κ×ν)->Option T} [h:∀m,Im E (k' m) (k m)]:Im E (Ah (zo l key v) k') (Vb (Ds a b (ey ⟨κ,f⟩ ⟨ν,g⟩ l).1 (ey ⟨κ,f⟩ ⟨ν,g⟩ l).2) λp=>rP (ey ⟨κ,f⟩ ⟨ν,g⟩) p k):=⟨by
 rw[<-Rw.e (a:=f key) (b:=a)];exact @I_put T E ⟨κ,f⟩ ⟨ν,g⟩ _ j i l key b v k k' (Rw.e (a:=g v)).symm λm=>(h m).p⟩
instance [Zj κ f] [Zj ν g]:Rw l.length (ey ⟨κ,f⟩ ⟨ν,g⟩ l).1.length:=⟨by simp[ey]⟩
end
def Tw {α:Type} {enc:α->List AV} [eO enc] {t:TypeId} {pre:List SV} {q:Nat} {x:List α} {k:List α->Option Out}:(AH t pre q (.box t (pre++[.pv (.dy q (List.map enc x))])) λc=>rP (List.map enc) c k)=k x:=by
 have key:∀w:List (List AV),Ob.box t (pre++[.pv (.dy q (List.map enc x))])= .box t (pre++[.pv (.dy q w)])->List.map enc x=w:=by intro w e;simp only[Ob.box.injEq,cR] at e;have e:=List.append_cancel_left e;simpa only[cg,SV.pv.injEq,AV.dy.injEq,cR,c9] using e
 have h:∃xs,Ob.box t (pre++[.pv (.dy q (List.map enc x))])= .box t (pre++[.pv (.dy q xs)]):=⟨_,rfl⟩
 unfold AH;rw[iG h,<-key _ h.choose_spec];show rP (List.map enc) (List.map enc x) k=k x;rw[kg]
noncomputable def iL {α:Type} (t:TypeId) (pre:List SV) (q:Nat) (enc:α->List AV) [eO enc]:It (List α):=⟨λxs=> .box t (pre++[.pv (.dy q (xs.map enc))]),λo k=>AH t pre q o λc=>rP (List.map enc) c k,λ_ _=>Tw⟩
class Gn {α:Type} (G:α->Out):Prop
class XG {α:Type} (l:List α) (f g:outParam (α->List AV)):Prop where
 e:f=g
section
variable {T:Type} {E:T->Out} {c c':Option Out}
instance mGetX {α:Type} {f g:α->List AV} {l:List α} [x:XG l f g] [eO g] {i q:Int} [Rw q i] {k:α->Option Out} {k':α->Option T} [h:∀x,Im E (k' (tl g x)) (k x)]:Im E (bB l q k') (bB (l.map f) i λr=>rP g r k):=⟨by
 rw[Rw.e (a:=q) (b:=i)];exact IgX x.e λx=>(h x).p⟩
variable [Rw c' c]
instance mGen {U:Type} {G:U->Out} [Gn G] [eO G] {k:U->Option Out} {k':U->Option T} [h:∀y,Im E (k' y) (k y)]:Im E (Option.bind (dec G c') k') (LG G c k):=⟨by
 rw[Rw.e (a:=c') (b:=c)];exact xJ (jK _ _) λy=>(h y).p⟩
instance mGen2 {U V:Type} {G:U×V->Out} [Gn G] [eO G] {k:U->V->Option Out} {k':U->V->Option T} [h:∀y v,Im E (k' y v) (k y v)]:Im E (AJ (dec G c') k') (genK2 G c k):=⟨by
 rw[Rw.e (a:=c') (b:=c)];exact FG (jK _ _) λy v=>(h y v).p⟩
instance mGen3 {U V W:Type} {G:U×V×W->Out} [Gn G] [eO G] {k:U->V->W->Option Out} {k':U->V->W->Option T} [h:∀y v w,Im E (k' y v w) (k y v w)]:Im E (dU (dec G c') k') (genK3 G c k):=⟨by
 rw[Rw.e (a:=c') (b:=c)];exact Aq (jK _ _) λy v w=>(h y v w).p⟩
instance mGen4 {U V W X:Type} {G:U×V×W×X->Out} [Gn G] [eO G] {k:U->V->W->X->Option Out} {k':U->V->W->X->Option T} [h:∀y v w x,Im E (k' y v w x) (k y v w x)]:Im E (mH (dec G c') k') (genK4 G c k):=⟨by
 rw[Rw.e (a:=c') (b:=c)];exact Tp (jK _ _) λy v w x=>(h y v w x).p⟩
instance mGen5 {U V W X Y:Type} {G:U×V×W×X×Y->Out} [Gn G] [eO G] {k:U->V->W->X->Y->Option Out} {k':U->V->W->X->Y->Option T} [h:∀y v w x z,Im E (k' y v w x z) (k y v w x z)]:Im E (I1 (dec G c') k') (genK5 G c k):=⟨by
 rw[Rw.e (a:=c') (b:=c)];exact I_gen5 (jK _ _) λy v w x z=>(h y v w x z).p⟩
end
