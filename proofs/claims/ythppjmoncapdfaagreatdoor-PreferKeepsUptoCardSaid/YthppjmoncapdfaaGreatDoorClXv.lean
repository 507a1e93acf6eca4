/- Default unification. -/
import Derived.Test.YthppjmoncapdfaaGreatDoorClXs
import Derived.Test.YthppjmoncapdfaaGreatDoorClSh
set_option linter.all false
open Int (toNat)
namespace Go.Proofs.YthppjmoncapdfaaGreatDoor.cl.pf
open Go Go.AM
structure TH where
 T:Nat
 F:Nat
 sb:Int->Int->Prop
 io:Int->Int
 vl:Int->Int->Int
abbrev TH.Lb (t:TH) (x p f:FSt):Prop:=Xt t.T t.F t.sb t.io t.vl x p f
abbrev TH.C (t:TH) (x:FSt):Prop:=Can t.T t.F x
abbrev TH.W (t:TH) (x:FSt):Prop:=WT t.sb t.io t.vl x
open Classical in
noncomputable def TH.jn (t:TH) (x p:FSt):Option FSt:=if h:∃f,t.Lb x p f then some h.choose else none
noncomputable def TH.ad (t:TH) (x p:FSt):FSt:=(t.jn x p).getD x
noncomputable def pts (d:FSt):List FSt:=(f400 d).getD []
noncomputable def TH.Kx (t:TH) (x d:FSt):FSt:=match t.jn x d with
 |some f=>f
 |none=>(pts d).foldl t.ad x
noncomputable def TH.cm (t:TH) (x:FSt) (D:List FSt):FSt:=D.foldl t.Kx x
structure TH.OK (t:TH) (h:bR):Prop where
 hx:HX h t.T t.F t.sb t.io t.vl
 T:t.T<=1000
 F:t.F<=64
structure TH.St (t:TH) (Q:List (List Int)) (x:FSt):Prop where
 can:t.C x
 wt:t.W x
 Ds:EB x Q
section
variable {t:TH} {h:bR} (H:t.OK h)
include H
theorem vJ {x p f:FSt}:t.jn x p=some f↔t.Lb x p f:=by
 unfold TH.jn;constructor
 .intro e;split at e
  .grind
  grind
 .intro l;have q:∃f,t.Lb x p f:=⟨f,l⟩
  rw[jY q];exact aK _ (q.choose_spec.uniq H.hx.hv l)
theorem TX {x p:FSt} (z:t.C x) (w:t.C p) (q:x.aj.length+p.aj.length<=100000):f419 h x p=some (match t.jn x p with|some f=>(f,true)|none=>(⟨[]⟩,false))/\f431 h x p=some (match t.jn x p with|some f=>(f,true)|none=>(⟨[]⟩,false))/\(t.jn x p=none->∀C,t.C C->t.W C->Le t.sb x C->Le t.sb p C->False):=by
 have F:=Vg H.hx.hv z w H.T (by have:=H.F;omega) q;rcases c419 H.hx.hv z w H.T (by have:=H.F;omega) q with⟨f,e,D⟩|⟨e,l⟩
 .have:=(vJ H).2 D;simp_all
 .have:t.jn x p=none:=by
   cases B:t.jn x p with
   |none=>rfl
   |some f=>have:=(vJ H).1 B;exact(l f this.can this.wt this.l this.r).elim
  simp_all
theorem Wz {x p:FSt} (l:t.C x) (w:t.W x) (q:Le t.sb p x):t.jn x p=some x:=
 (vJ H).2 ⟨l,w,Le.refl H.hx.hv.hm.to l,q,λC _ _ h _=>h,λP h _=>h⟩
theorem K3 {Q:List (List Int)} {x p:FSt} (l:t.St Q x) (q:EB p Q):t.St Q (t.ad x p)/\Le t.sb x (t.ad x p)/\∀f,t.jn x p=some f->t.ad x p=f/\Le t.sb p f:=by unfold TH.ad;cases e:t.jn x p with
 |none=>exact⟨l,Le.refl H.hx.hv.hm.to l.can,λf e=>by cases e⟩
 |some f=>have:=(vJ H).1 e;exact⟨⟨this.can,this.wt,this.Ds Q l.Ds q⟩,this.l,λg e=>by cases e;exact⟨rfl,this.r⟩⟩
theorem MJ {Q:List (List Int)}:∀(L:List FSt) {x:FSt},t.St Q x->(∀p∈L,EB p Q)->t.St Q (L.foldl t.ad x)/\Le t.sb x (L.foldl t.ad x)
 |[],x,l,_=>⟨l,Le.refl H.hx.hv.hm.to l.can⟩
 |p::L,x,l,w=>by
  obtain⟨z,B,_⟩:=K3 H l (w p ah);obtain⟨D,F⟩:=MJ L z λq G=>w q (by simp[G])
  exact⟨D,Le.trans H.hx.hv.hm.to B F⟩
theorem Li {Q:List (List Int)} (S:Q.length<=50000):∀(L:List FSt) {x g:FSt},t.St Q x->(∀p∈L,EB p Q/\t.C p)->t.C g->t.W g->Le t.sb (L.foldl t.ad x) g->∀p∈L,Le t.sb p g->Le t.sb p (L.foldl t.ad x)
 |[],_,_,_,_,_,_,_,p,w,_=>by cases w
 |q::L,x,g,D,l,N,O,hle,p,w,z=>by
  obtain⟨G,P,R⟩:=K3 H D (l q ah).1;have I:=MJ H L G λr B=>(l r (by simp[B])).1
  rcases aG.1 w with rfl|w
  .cases e:t.jn x p with
   |some f=>obtain⟨e1,F⟩:=R f e;rw[<-e1] at F;exact Le.trans H.hx.hv.hm.to F I.2
   |none=>have:=D.Ds.le;have:=(l p ah).1.le;exact((TX H D.can (l p ah).2 af).2.2 e g N O (Le.trans H.hx.hv.hm.to P (Le.trans H.hx.hv.hm.to I.2 hle)) z).elim
  .exact Li S L G (λr B=>l r (by simp[B])) N O hle p w z
variable (K:Vq)
include K
theorem Jh {d:FSt} (q:SL t.T t.F d):∃P:List (List Int),P.length<=24/\f400 d=some (pts d)/\f401 d=some (pts d)/\PT t.T t.F d (pts d)/\(∀p∈pts d,EB p P/\t.C p/\Le t.sb p d)/\EB d P:=by
 obtain⟨L,S,e1,z,w,_⟩:=RD q.can q.lt H.F K;have e:pts d=L:=by unfold pts;rw[e1];rfl
 obtain⟨P,G,B⟩:=w.Ds;obtain⟨R,D,I⟩:=Can.Ds H.hx.hv q.can;have N:=q.lt.n;rw[e];exact⟨_,by grind,e1,z,w,λp h=>⟨(B p h).mono λF l=>dV _ l,w.can p h,w.low _ H.hx.hv.hm.to p h⟩,D.mono λF l=>fN _ l⟩
theorem ZQ {Q:List (List Int)} {x d:FSt} (q:t.St Q x) (B:SL t.T t.F d) (hQ:Q.length<=40000):∃R,R.length<=Q.length+24/\t.St R (t.Kx x d)/\Le t.sb x (t.Kx x d)/\
  ∀g,t.C g->t.W g->Le t.sb (t.Kx x d) g->(Le t.sb d g->Le t.sb d (t.Kx x d))/\∀p∈pts d,Le t.sb p g->Le t.sb p (t.Kx x d):=by
 obtain⟨P,h1,h2,h3,h4,F,N⟩:=Jh H K B;have w:t.St (Q++P) x:=⟨q.can,q.wt,q.Ds.mono λL h=>dV _ h⟩
 have G:=H.hx.hv.hm.to;refine⟨Q++P,by simp_all,?_⟩;have hc:=q.Ds.le;have hl:=B.lt.n;unfold TH.Kx;cases e:t.jn x d with
 |some f=>have l:=(vJ H).1 e;exact⟨⟨l.can,l.wt,l.Ds _ w.Ds (N.mono λL h=>fN _ h)⟩,l.l,λg _ _ _=>⟨λ_=>l.r,λp z _=>Le.trans G (F p z).2.2 l.r⟩⟩
 |none=>
  have O:∀p∈pts d,EB p (Q++P):=λp z=>(F p z).1.mono λL h=>fN _ h
  obtain⟨q1,I⟩:=MJ H _ w O;refine⟨q1,I,λg S V hle=>⟨λD=> ?_,λp z U=> ?_⟩⟩
  .exact((TX H q.can B.can af).2.2 e g S V (Le.trans G I hle) D).elim
  grind[Li,List.length_append]
theorem FJ:∀(D:List FSt) {Q:List (List Int)} {x:FSt},t.St Q x->(∀d∈D,SL t.T t.F d)->Q.length+24 *D.length<=40000->∃R,R.length<=Q.length+24 *D.length/\t.St R (t.cm x D)/\Le t.sb x (t.cm x D)/\
  ∀g,t.C g->t.W g->Le t.sb (t.cm x D) g->∀d∈D,(Le t.sb d g->Le t.sb d (t.cm x D))/\∀p∈pts d,Le t.sb p g->Le t.sb p (t.cm x D)
 |[],Q,x,w,_,_=>⟨Q,by simp,w,Le.refl H.hx.hv.hm.to w.can,λ_ _ _ _ d S=>by cases S⟩
 |d::D,Q,x,w,B,P=>by
  have q:=H.hx.hv.hm.to;rw[bg] at P;obtain⟨R,h1,L,N,O⟩:=ZQ H K w (B d ah) af;obtain⟨I,q1,V,z,q4⟩:=FJ D L (λe l=>B e (by simp[l])) af;refine⟨I,by grind,V,Le.trans q N z,λg F G hle e l=> ?_⟩;rcases aG.1 l with rfl|l
  .obtain⟨r1,r2⟩:=O g F G (Le.trans q z hle);exact⟨λh=>Le.trans q (r1 h) z,λp U h=>Le.trans q (r2 p U h) z⟩
  .exact q4 g F G hle e l
theorem cm_idem {Q:List (List Int)} {x:FSt} {D:List FSt} (O:t.St Q x) (F:∀d∈D,SL t.T t.F d) (G:Q.length+24 *D.length<=40000):t.cm (t.cm x D) D=t.cm x D:=by
 obtain⟨R,S,w,U,B⟩:=FJ H K D O F G;generalize t.cm x D=f at *;have key:∀p,(∀g,t.C g->t.W g->Le _ f g->Le _ p g->Le _ p f)->∀g,t.jn f p=some g->g=f:=λp q g e=>by have l:=(vJ H).1 e;have:=Wz H w.can w.wt (q g l.can l.wt l.l l.r);simp_all
 have one:∀d∈D,t.Kx f d=f:=λd I=>by unfold TH.Kx;cases e:t.jn f d with
  |some g=>grind
  |none=>
   have:∀L:List _,(∀p∈L,p∈pts d)->L.foldl t.ad f=f:=by intro L;induction L with
    |nil=>simp
    |cons p L P=>
     intro z
     have:t.ad f p=f:=by unfold TH.ad;cases e:t.jn f p with
      |none=>rfl
      |some g=>exact key p (λg l N hle q=>(B g l N hle d I).2 p (z p ah) q) g e
     grind
   grind
 have:∀L:List _,(∀d∈L,d∈D)->t.cm f L=f:=by intro L;induction L with
  |nil=>intro _;rfl
  |cons d L P=>intro z;show t.cm _ L=f;grind
 grind
theorem c483 {Q:List (List Int)} {x p:FSt} (l:t.St Q x) (z:Q.length<=50000) (q:t.C p) (w:p.aj.length<=50000):f483 p ⟨h,x⟩=some ((t.jn x p).isSome,⟨h,t.ad x p⟩):=by have:=l.Ds.le;obtain⟨e,_⟩:=TX H l.can q af;refine e483 ?_;grind[TH.ad]
theorem PV {D:List FSt} (hD:∀d∈D,SL t.T t.F d) {Q:List (List Int)} {x:FSt} (q:t.St Q x) (O:Q.length+24 *D.length<=40000):f405 h x D=some (t.cm x D):=by
 have inner:∀{i:Nat} (R:i<40000) {d:FSt} (z:SL t.T t.F d) {P:List _} (U:P.length<=50000) (V:∀p∈pts d,EB p P/\t.C p) {w:FSt} {G:FSt->FSt} (hr:∀y,t.St P y->Fh D (D.length) ((i+1:Nat)) w ⟨h,y⟩=some (G y)) (hl:(pts d).length<=1000),
   ∀(xs) (k) (y),(pts d).drop k=xs->t.St P y->OL D (D.length) (i) (pts d) ((pts d).length) (k) w ⟨h,y⟩=some (G (xs.foldl t.ad y)):=by
  intro i R d z P U V w G hr hl xs;induction xs with
  |nil=>intro k y l I;refine abF ?_;rw[bq l,aA,bp af];simp_all
  |cons p xs L=>intro k y l I;have B:=V p (aI (bA l));have QG:=B.1.le;refine abF ?_;rw[bf l,ai,aQ l,c483 H K I U B.2 af,r6,aX l af];exact L _ _ (aH l) (K3 H I B.1).1
 have outer:∀(xs) (i) (Q) (x) (w),D.drop i=xs->t.St Q x->Q.length+24 *xs.length<=40000->i+xs.length<=30000->Fh D (D.length) (i) w ⟨h,x⟩=some (t.cm x xs):=by intro xs;induction xs with
  |nil=>intro i Q x w l q _ _;refine abE ?_;rw[bq l];rfl
  |cons d xs L=>
   intro i Q x w l q O R;rw[bg] at O R;have z:=hD d (aI (bA l));obtain⟨P,h1,h2,h3,h4,S,h6⟩:=Jh H K z;have hn:=z.lt.n;refine abE ?_;rw[bf l,ai,aQ l,c483 H K q af z.can af];rw[r6];have F:t.St (Q++P) x:=⟨q.can,q.wt,q.Ds.mono λπ h=>dV _ h⟩
   have hPl:(Q++P).length<=Q.length+24:=by rw[cS];omega
   have ec:t.cm x (d::xs)=t.cm (t.Kx x d) _:=rfl;rw[ec];cases e:t.jn x d with
   |some f=>
    have N:t.ad x d=t.Kx x d:=by unfold TH.ad TH.Kx;rw[e];rfl
    have hs:=(K3 H F (h6.mono λπ h=>fN _ h)).1;rw[N] at hs⊢;rw[cond_pos (by rfl),aX l af];exact L _ _ _ _ (aH l) hs af af
   |none=>
    have N:t.ad x d=x:=by unfold TH.ad;rw[e];rfl
    have e1:t.Kx x d=(pts d).foldl t.ad x:=by unfold TH.Kx;rw[e]
    rw[cond_neg (by rfl),h2,ak,N,e1];exact inner af z af (λp B=>⟨(S p B).1.mono λπ h=>fN _ h,(S p B).2.1⟩) (λy I=>L _ _ y _ (aH l) I af af) (by have:=h4.len;omega) _ 0 x rfl F
 exact e405 (outer D 0 Q x _ rfl q O af)
theorem c406 {D:List FSt} (hD:∀d∈D,SL t.T t.F d) {Q:List (List Int)} {x:FSt} (B:t.St Q x) (hQ:Q.length+24 *D.length<=40000):f406 h x D=some (t.cm x D):=by
 have inner:∀{i:Nat} (hi:i<40000) {d:FSt} (L:SL t.T t.F d) {P:List (List Int)} (hP:P.length<=50000) (hc:∀p∈pts d,EB p P/\t.C p) {o4 o6:FSt} {G:FSt->FSt} (F:∀y w q,t.St P y->Bg D ((i+1:Nat):Int) h o4 o6 y w=some (G y)/\Ej D ((i+1:Nat):Int) h o4 o6 y w q=some (G y)) (hl:(pts d).length<=1000),
   ∀(xs:List FSt) (k:Nat) (y w q:FSt),(pts d).drop k=xs->t.St P y->Ei D (i:Int) (pts d) (k:Int) h o4 o6 y w=some (G (xs.foldl t.ad y))/\rO D (i:Int) (pts d) (k:Int) h o4 o6 y w q=some (G (xs.foldl t.ad y)):=by
  intro i hi d L P hP hc o4 o6 G F hl xs;induction xs with
  |nil=>
   intro k y w q l I;obtain⟨r1,r2⟩:=F y w q I;refine⟨M0 ?_,IK ?_⟩<;>rw[bq l,aA,bp af]
   .exact r1
   simp_all
  |cons p xs R=>
   intro k y w q l I;have N:=hc p (aI (bA l));have QG:=N.1.le;have hyl:=I.Ds.le;obtain⟨_,e,_⟩:=TX H I.can N.2 af;have O:=K3 H I N.1;have main:∀r,(∀a b,rO D (i:Int) (pts d) ((k+1:Nat):Int) h o4 o6 (t.ad y p) a b=some r)->Ei D (i:Int) (pts d) (k:Int) h o4 o6 y w=some r/\rO D (i:Int) (pts d) (k:Int) h o4 o6 y w q=some r:=λr F=>by cases z:t.jn y p with
    |none=>
     have S:t.ad y p=y:=by unfold TH.ad;rw[z];rfl
     rw[z] at e;have e:f431 h y p=some (⟨[]⟩,false):=e;rw[S] at F;refine⟨M0 ?_,IK ?_⟩<;>rw[bf l,ai,aQ l,e,ak,cond_neg (by rfl),aX l af]<;>exact F _ _
    |some g=>
     have S:t.ad y p=g:=by unfold TH.ad;rw[z];rfl
     rw[z] at e;rw[S] at F;refine⟨M0 ?_,IK ?_⟩<;>rw[bf l,ai,aQ l,e,ak,cond_pos (by rfl),aX l af]<;>exact F _ _
   exact main _ λa b=>(R _ _ a b (aH l) O.1).2
 have outer:∀(xs) (i) (Q) (x o4 o6 w q),D.drop i=xs->t.St Q x->Q.length+24 *xs.length<=40000->i+xs.length<=30000->
   U9 D (i) h o4 o6 x=some (t.cm x xs)/\Bg D (i) h o4 o6 x w=some (t.cm x xs)/\Ej D (i) h o4 o6 x w q=some (t.cm x xs):=by
  intro xs;induction xs with
  |nil=>intro i Q x o4 o6 w q l B _ _;refine⟨T5 ?_,M1 ?_,M3 ?_⟩<;>rw[bq l]<;>rfl
  |cons d xs R=>
   intro i Q x o4 o6 w q l B hQ hi;rw[bg] at hQ hi;have L:=hD d (aI (bA l));obtain⟨P,h1,h2,h3,h4,h5,h6⟩:=Jh H K L;have hn:=L.lt.n;have hxl:=B.Ds.le;have V:t.St (Q++P) x:=⟨B.can,B.wt,B.Ds.mono λπ h=>dV _ h⟩
   have hPl:(Q++P).length<=Q.length+24:=by rw[cS];omega
   have ec:t.cm x (d::xs)=t.cm (t.Kx x d) _:=rfl;obtain⟨_,e,_⟩:=TX H B.can L.can af;rw[ec];cases z:t.jn x d with
   |some f=>
    rw[z] at e;have S:t.Kx x d=f:=by unfold TH.Kx;rw[z]
    have O:=(K3 H V (h6.mono λπ h=>fN _ h)).1;have ea2:t.ad x d=f:=by unfold TH.ad;rw[z];rfl
    rw[ea2] at O;rw[S];refine⟨T5 ?_,M1 ?_,M3 ?_⟩<;>rw[bf l,ai,aQ l,e,ak,cond_pos (by rfl),aX l af]
    .exact(R _ _ f _ _ f f (aH l) O af af).2.1
    .exact(R _ _ f _ _ f f (aH l) O af af).2.1
    .exact(R _ _ f _ _ f _ (aH l) O af af).2.2
   |none=>
    rw[z] at e;have e1:t.Kx x d=(pts d).foldl t.ad x:=by unfold TH.Kx;rw[z]
    have U :=λw q=>inner af L af (λp N=>⟨(h5 p N).1.mono λπ h=>fN _ h,(h5 p N).2.1⟩) (o4:=o4) (o6:=o6) (λy w q I=>(R _ _ y _ _ _ _ (aH l) I af af).2) (by have:=h4.len;omega) _ 0 x w q rfl V
    rw[e1];refine⟨T5 ?_,M1 ?_,M3 ?_⟩<;>rw[bf l,ai,aQ l,e,ak,cond_neg (by rfl),aQ l,h3,ak]
    .exact(U _ x).1
    .exact(U _ x).1
    simp_all
 exact e406 (outer D 0 Q x x _ x x rfl B hQ af).1
omit K in
theorem c404 {s:FSt} {D:List FSt}:∃r,f404 h s D=some r/\(r=true->SL t.T t.F s/\t.W s/\D.length<=4/\∀d∈D,SL t.T t.F d):=by obtain⟨r,q,F⟩:=c408 h s;rw[H.hx.tl,H.hx.hv.fl] at F;cases r with
 |false=>exact⟨false,e404 (by rw[q,ak];rfl),λe=>by cases e⟩
 |true=>
  have G:=F rfl;obtain⟨e,B,O⟩:=c417 H.hx G.lt;by_cases w:e=0
  .by_cases P:D.length>4
   .exact⟨false,e404 (by rw[q,ak,cond_neg (by rfl),B,ak,cond_neg (by rw[x8];exact w),cond_pos (by rw[bH];omega)]),λe=>by cases e⟩
   .have key:∀(xs:List FSt) (i:Nat),D.drop i=xs->∃r,OJ D (i:Int) h=some r/\(r=true->∀d∈xs,SL t.T t.F d):=by
     intro xs;induction xs with
     |nil=>intro i l;exact⟨true,T0 (by rw[bq l,aA]),λ_ d l=>by cases l⟩
     |cons d xs N=>intro i l;obtain⟨r,I,L⟩:=c408 h d;rw[H.hx.tl,H.hx.hv.fl] at L;cases r with
      |false=>exact⟨false,T0 (by rw[bf l,ai,aQ l,I,ak];rfl),λe=>by cases e⟩
      |true=>
       obtain⟨r,s1,s2⟩:=N (i+1) (aH l);refine⟨r,T0 (by rw[bf l,ai,aQ l,I,ak,cond_neg (by rfl),aX l af];exact s1),λe c z=> ?_⟩;rcases aG.1 z with rfl|z
       .exact L rfl
       .exact s2 e c z
    obtain⟨r,s1,s2⟩:=key D 0 rfl;exact⟨r,e404 (by rw[q,ak,cond_neg (by rfl),B,ak,cond_neg (by rw[x8];exact w),cond_neg (by rw[bP];omega)];exact s1),λe=>⟨G,(O w).2,by omega,s2 e⟩⟩
  .exact⟨false,e404 (by rw[q,ak,cond_neg (by rfl),B,ak,cond_pos (by rw[j0];exact w)]),λe=>by cases e⟩
omit K in
theorem St.sm {Q:List (List Int)} {x:FSt} (l:t.St Q x) (q:Q.length<=4096):Sm x:=by have:=l.Ds.le;have:=H.F;exact l.can.sm af af
omit K in
theorem WX {x:FSt} (l:SL t.T t.F x) (w:t.W x):∃Q:List (List Int),Q.length<=12/\t.St Q x:=by obtain⟨R,q,z⟩:=Can.Ds H.hx.hv l.can;have:=l.lt.n;exact⟨R,by omega,l.can,w,q⟩
end
def HierOK (d:List aB):Prop:=∃(h:bR) (t:TH),f403 d=some h/\t.OK h
section
variable {d:List aB} (HO:HierOK d) (K:Vq) (X:f399=some true)
include HO K X
theorem l393 (s:FSt) (D:List FSt):f393 d s D=some true:=by obtain⟨h,t,w,H⟩:=HO;obtain⟨r,B,F⟩:=c404 H;refine e393 ?_;rw[w,ak,B,ak];cases r with
 |false=>simp_all
 |true=>obtain⟨G,I,O,q⟩:=F rfl;obtain⟨Q,N,l⟩:=WX H G I;obtain⟨R,L,z,_⟩:=FJ H K D l q af;rw[cond_neg (by rfl),PV H K q l af,ak,c406 H K q l af,ak,Dk (St.sm H z af),ak,cond_pos (by rfl),X,ak]
theorem l394 (s:FSt) (D:List FSt):f394 d s D=some true:=by obtain⟨h,t,L,H⟩:=HO;obtain⟨r,S,U⟩:=c404 H;refine e394 ?_;rw[L,ak,S,ak];cases r with
 |false=>simp_all
 |true=>
  obtain⟨v1,v2,v3,l⟩:=U rfl;obtain⟨Q,hQ,q⟩:=WX H v1 v2;obtain⟨R,h1,G,_⟩:=FJ H K D q l af;have F:=cm_idem H K q l af;have w:=Dk (St.sm H G af);rw[cond_neg (by rfl),PV H K l q af,ak,PV H K l G af,ak,F,w,ak,cond_neg (by rfl)];have key:∀(k n),D.length+1=n+k->OD D (n) s h (t.cm s D)=some true:=by intro k;induction k with
   |zero=>intro n N;refine abx ?_;grind
   |succ k P=>
    intro n N;have O:n<=D.length:=af;have I:∀e∈D.take n,SL _ _ e:=λe B=>l e (uK B)
    have z:∀e∈D.drop n,SL _ _ e:=λe B=>l e (uJ B)
    have l1:(D.take n).length<=4:=by rw[fI];omega
    have l2:(D.drop n).length<=4:=by rw[xK];omega
    obtain⟨R2,r1,V,_⟩:=FJ H K _ q I af;have e:t.cm (t.cm s (D.take n)) (D.drop n)=t.cm s D:=by unfold TH.cm;rw[<-List.foldl_append,jq]
    refine abx ?_;rw[cond_pos (by simp_all),bh ⟨af,af⟩,aR,uf,PV H K I q af,ak,bh ⟨af,af⟩,fC,PV H K z V af,ak,e,w,ak,cond_neg (by rfl),bp af];exact P _ af
  exact key (D.length+1) 0 af
theorem l395 (s:FSt) (D:List FSt):f395 d s D=some true:=by obtain⟨h,t,g1,H⟩:=HO;have hT:=H.hx.hv.hm.to;obtain⟨r,q1,q2⟩:=c404 H (s:=s) (D:=D);refine e395 ?_;rw[g1,ak,q1,ak];cases r with
 |false=>simp_all
 |true=>
  obtain⟨v1,v2,v3,I⟩:=q2 rfl;obtain⟨Q,hQ,z⟩:=WX H v1 v2;obtain⟨R,h1,S,_⟩:=FJ H K D z I af;have hsm:=Dk (St.sm H S af);have B:=Dk (St.sm H z af);have q:f405 h s []=some s:=PV H K (λ_ h=>by cases h) z aF;rw[cond_neg (by rfl),PV H K I z af,ak];have bad:∀(i:Nat) (y:FSt),Cx D false (i:Int) s h (t.cm s D) y=some true:=λi y=>by
   refine TZ ?_;by_cases w:(i:Int)<(D.length:Int)
   .rw[cond_pos (by rw[bH];exact w),cond_neg (by rfl),cond_pos (by rfl),q,ak,B,ak,cond_pos (by rfl),X,ak]
   .rw[cond_neg (by rw[bP];exact w),cond_pos (by rfl),q,ak,B,ak,cond_pos (by rfl),X,ak]
  have key:∀(xs:List FSt) (i:Nat) (P:List (List Int)) (y:FSt),D.drop i=xs->t.St P y->P.length+24 *xs.length<=2000->t.cm y xs=t.cm s D->Cx D true (i:Int) s h (t.cm s D) y=some true:=by intro xs;induction xs with
   |nil=>intro i P y l G V e;have e:y=t.cm s D:=e;simp_all[TZ,bq,l,aA,cond_neg,ak,cond_pos]
   |cons c xs ih=>intro i P y l G V e;rw[bg] at V;have F:=I c (aI (bA l));have hcn:=F.lt.n;have hyl:=G.Ds.le;obtain⟨u,_⟩:=TX H G.can F.can af;have L:t.cm (t.Kx y c) xs=t.cm s D:=e;have hil:=c9 l;refine TZ ?_;rw[bf l,ai,ai,aQ l,u,ak];cases O:t.jn y c with
    |none=>
     simp only[];by_cases w:i=0
     .subst w;rw[cond_pos (by rfl),cond_neg (by rfl)];exact bad 1 _
     .rw[cond_neg (by simp_all),aX l af];exact bad _ _
    |some f=>
     have ef:t.Kx y c=f:=by unfold TH.Kx;rw[O]
     obtain⟨R2,r1,N,_,_⟩:=ZQ H K G F af;rw[ef] at L N;have next:=ih _ _ f (aH l) N af L
     by_cases w:i=0
     .subst w;have hle:Le t.sb c (t.cm s D):=by
       obtain⟨_,_,_,U,_⟩:=FJ H K xs N (λe he=>I e (by simp_all)) af;rw[L] at U;exact Le.trans hT ((vJ H).1 O).r U
      obtain⟨r,s1,s2⟩:=c412 H.hx F.can S.can af (by have:=H.F;omega);have hz:∀{R:Type} (k:FSt->Option R),aW D 0 k=k c:=λk=>by have:=aQ l k;omega
      rw[cond_pos (by rfl),cond_pos (by rfl),hz,s1,ak,s2.2 hle,cond_neg (by rfl)];exact next
     .rw[cond_neg (by simp_all),aX l af];omega
  exact key D 0 Q s rfl z af rfl
theorem l396 (f:FSt):f396 d f=some true:=by obtain⟨h,t,g1,H⟩:=HO;have D:=H.hx.hv.hm.to;obtain⟨r,q1,q2⟩:=c408 h f;rw[H.hx.tl,H.hx.hv.fl] at q2;refine e396 ?_;cases r with
 |false=>simp_all
 |true=>
  have G:=q2 rfl;have hn:=G.lt.n;have hF:=H.F;obtain⟨L,S,e1,_,B,e2,e3,e4⟩:=RD G.can G.lt H.F K;have hw:IntKind.wrap .i64 ((f.aj.length)+(S.length))=(L.length):=by rw[e3];exact jN af af
  have hLl:=B.len;have U:∀p∈L,p.aj.length<=12:=λp I=>by obtain⟨P,h1,h2⟩:=B.Ds;have:=(h2 p I).le;omega
  have R:f420 h L=some (f,true):=by
   have hL0:0<L.length:=by have:=G.can.ne;omega
   obtain⟨P,c1,c2⟩:=B.Ds;obtain⟨O,z,rfl⟩:∃O z,L=O::z:=by cases L with|nil=>simp at hL0|cons a b=>simp
   have et:((O::z).take (O::z).length).drop (toNat (1))=z:=by rw[fC];rfl
   refine e420 ?_;rw[cond_neg (by rfl),iC,bh ⟨af,af⟩,et];have key:∀(xs) (i) (x o9),z.drop i=xs->Can t.T t.F x->EB x P->Le t.sb x f->(∀p∈O::z.take i,Le t.sb p x)->Va z (z.length) (i) h ⟨[]⟩ x=some (f,true)/\Hp z (z.length) (i) h ⟨[]⟩ x o9=some (f,true):=by intro xs;induction xs with
    |nil=>
     intro i x o9 w V hc hle F;have :=by refine Le.anti D V G.can hle (B.all _ D x V λp I=>F p ?_);rw[gd (iq w)];exact I
     subst this;refine⟨abL ?_,Wk ?_⟩<;>rw[bq w,aA]
    |cons p xs ih=>
     intro i x o9 w V hc hle F;have l:p∈O::z:=eo _ (aI (bA w));have h1:=hc.le;have h2:=U p l;rw[bg] at hLl;rcases c433 H.hx.hv.hm V (B.can p l) af af with⟨y,u,Q⟩|⟨u,hno⟩
     .have nx:=ih _ y y (aH w) Q.can (Q.Ds P hc (c2 p l)) (Q.least f G.can hle (B.low _ D p l)) λq N=>by
       rw[cr,bA w,aG,bw] at N;rcases N with rfl|N|N
       .exact Le.trans D (F q ah) Q.l
       .exact Le.trans D (F q (by simp[N])) Q.l
       .simp at N;subst N;exact Q.r
      refine⟨abL ?_,Wk ?_⟩<;>rw[bf w,ai,aQ w,u,ak,cond_neg (by rfl),aX w af]<;>exact nx.2
     .exact(hno f G.can hle (B.low _ D p l)).elim
   exact(key _ 0 _ O rfl (B.can _ ah) (c2 _ ah) (B.low _ D _ ah) λp h=>by simp at h;subst h;exact Le.refl D (B.can p ah)).1
  have key:∀(xs) (i),L.drop i=xs->OE L (i) f h=some true:=by intro xs;induction xs with
   |nil=>intro i w;refine aby ?_;rw[bq w,aA,R,ak,cond_pos (by rfl),Dk G.lt.sm,ak,cond_pos (by rfl),X,ak]
   |cons p xs ih=>intro i w;have l:=aI (bA w);have:=U p l;obtain⟨r,s1,s2⟩:=c412 H.hx (B.can p l) G.can af af;refine aby ?_;rw[bf w,ai,aQ w,s1,ak,s2.2 (B.low _ D p l),cond_neg (by rfl),aX w af];exact ih _ (aH w)
  grind
theorem l397 (s:FSt) (D:List FSt):f397 d s D=some true:=by obtain⟨h,t,g1,H⟩:=HO;have hT:=H.hx.hv.hm.to;have hF:=H.F;obtain⟨r,q1,q2⟩:=c404 H (s:=s) (D:=D);refine e397 ?_;rw[g1,ak,q1,ak];cases r with
 |false=>simp_all
 |true=>
  obtain⟨O,v2,v3,G⟩:=q2 rfl;obtain⟨Q,hQ,V⟩:=WX H O v2;obtain⟨R,h1,w,h3,h4⟩:=FJ H K D V G af;have hn:=O.lt.n;rw[cond_neg (by rfl),PV H K G V af,ak];generalize t.cm s D=f at *;have hfl:=w.Ds.le;have L:=St.sm H w af;obtain⟨e,a1,S⟩:=c410 L.a;rw[H.hx.tl,H.hx.hv.fl] at S;have he :=S.2 ⟨w.can,af⟩;obtain⟨r,b1,b2⟩:=c412 H.hx O.can w.can af af;rw[c411 H.hx w.can w.wt af af];have inner:∀{i:Nat} (hi:i<1000) {c:FSt} (z:c∈D) (hr:JY D ((i+1:Nat)) h f=some true) (xs) (k),(pts c).drop k=xs->Hl D (i) (pts c) (k) h f=some true:=by intro i hi c z hr xs;obtain⟨P,p1,p2,p3,p4,p5,p6⟩:=Jh H K (G c z);have QG:=p4.len;induction xs with
   |nil=>intro k l;refine Wj ?_;rw[bq l,aA,bp af];omega
   |cons p xs N=>
    intro k l;have B:=aI (bA l);obtain⟨c1,c2,c3⟩:=p5 p B;have:=c1.le;obtain⟨u,_⟩:=TX H w.can c2 af;obtain⟨r,s1,s2⟩:=c412 H.hx c2 w.can af af;have eq:∀{q:FSt×Bool},q=(match t.jn f p with|some f=>(f,true)|none=>(⟨[]⟩,false))->q.2=r:=λ{q} U=>by cases I:t.jn f p with
     |some g=>have F:=(vJ H).1 I;rw[U,I];exact(s2.2 ((h4 g F.can F.wt F.l c z).2 p B F.r)).symm
     |none=>rw[U,I];cases r with
      |false=>rfl
      |true=>have:=Wz H w.can w.wt (s2.1 rfl);simp_all
    refine Wj ?_;rw[bf l,ai,aQ l,u,ak,aQ l,s1,ak,eq rfl,cond_neg ah,aX l af];exact N _ (aH l)
  have outer:∀(xs) (i),D.drop i=xs->JY D (i) h f=some true:=by intro xs;induction xs with
   |nil=>intro i l;refine abz ?_;rw[bq l,aA,X,ak]
   |cons c xs N=>intro i l;have z:=aI (bA l);have hil:=c9 l;obtain⟨P,p1,p2,p3,p4,p5,p6⟩:=Jh H K (G c z);refine abz ?_;rw[bf l,ai,aQ l,p2,ak];exact inner af z (N _ (aH l)) _ 0 rfl
  grind
end
end Go.Proofs.YthppjmoncapdfaaGreatDoor.cl.pf
namespace Go.Proofs.YthppjmoncapdfaaGreatDoor.cl.pf
open Go Go.AM
noncomputable def tOf (d:List aB):TH:=⟨(tys d).length,(pO d).length,
 λa b=>(0<=a/\a<((tys d).length:Int))/\(0<=b/\b<((tys d).length:Int))/\sub ((tys d).getD b.toNat 0) ((tys d).getD a.toNat 0)=true,
 λf=>(nu d ((z1 d ((pO d).getD f.toNat [])).getD []):Int),
 λa f=>match inh d ((tys d).getD a.toNat 0) ((pO d).getD f.toNat []) with
  |some c=>GA (tys d) c
  |none=>0⟩
def Cg {a:Int} {n:Nat} (h:0<=a) (l:a<(n:Int)):∃i:Nat,a=(i:Int)/\i<n:=⟨a.toNat,by omega,af⟩
def hd_to {q:List Nat} (K:Za q):TO q.length (λa b=>(0<=a/\a<(q.length:Int))/\(0<=b/\b<(q.length:Int))/\sub (q.getD b.toNat 0) (q.getD a.toNat 0)=true):=by refine⟨λh=>h.1,λh=>h.2.1,λh l=>⟨⟨h,l⟩,⟨h,l⟩,xz _⟩,λh l=>⟨h.1,l.2.1,xA l.2.2 h.2.2⟩,λh l=> ?_,λh l=>⟨⟨af,af⟩,⟨h,l⟩,K.top _ (ku af)⟩⟩;have:=getD_inj K.nd af af (rN h.2.2 l.2.2);omega
def hd_hm {h:bR} {l:List Nat} (H:Hd h l) (K:Za l):HM h l.length (λa b=>(0<=a/\a<(l.length:Int))/\(0<=b/\b<(l.length:Int))/\sub (l.getD b.toNat 0) (l.getD a.toNat 0)=true):=by
 refine⟨hd_to K,λa b I L N O=> ?_⟩;obtain⟨i,rfl,z⟩:=Cg I L;obtain⟨j,rfl,D⟩:=Cg N O;rw[o335 H K z D,o336 H K z D];simp only[aR];by_cases F:l.getD i 0&&&l.getD j 0∈l
 .obtain⟨q,U,G,R⟩:=MH F;have e:BD l (l.getD i 0&&&l.getD j 0)=((q:Int),true):=by
   unfold BD;rw[R,au af]
  rw[e];refine .inl ⟨q,rfl,rfl,⟨⟨I,L⟩,⟨af,af⟩,?_⟩,⟨⟨N,O⟩,⟨af,af⟩,?_⟩,λc w B=>⟨⟨af,af⟩,w.2.1,?_⟩⟩
  .rw[aR,G];exact Ee _ _
  .rw[aR,G];exact KY _ _
  .rw[aR,G];exact WZ w.2.2 B.2.2
 .have e:BD l (l.getD i 0&&&l.getD j 0)=(0,false):=by
   unfold BD;rw[VM F];rfl
  rw[e];refine .inr ⟨0,rfl,rfl,λc w B=>F (K.cl _ (ku z) _ (ku D) λQ=> ?_)⟩;have P:=WZ w.2.2 B.2.2;rw[Q] at P;have S:=w.2.1;refine K.nz _ (ku af) (rN P ?_);exact jM.2 λi z=>by simp at z
def MR {d:List aB} (O:Zg d):(tOf d).OK (uV d):=by
 have HD:=hd5 O;have K:=O.ok.TN;have hl:=O.ok.cF;have h64:=O.f64;have hvd:=Sr O.fd;have L:∀f:Int,0<=f->f<((pO d).length:Int)->∃j F,f=((j:Nat):Int)/\(pO d)[j]? =some F/\(pO d).getD f.toNat []=F/\F∈pO d:=λf I f1=>by obtain⟨j,rfl,hj⟩:=Cg I f1;have e:=aM hj;exact⟨j,_,rfl,e,by rw[aR,aZ,e];rfl,br hj⟩
 have hio:∀F∈pO d,∃u∈jI d,z1 d F=some u:=λF w=>by obtain⟨u,U⟩:=O.intro F w;exact⟨u,QU O.ok.acc U,U⟩
 have R:∀(a f:Int),0<=a->a<((tys d).length:Int)->∀F∈pO d,(pO d).getD f.toNat []=F->((inh d ((tys d).getD a.toNat 0) F).isSome=true↔(tOf d).sb ((tOf d).io f) a):=λa f B l F w e=>by
  obtain⟨u,U,z⟩:=hio F w;obtain⟨_,n1,n2,_⟩:=O.ok.yG U;have P:(tOf d).io f=(nu d u:Int):=by show(nu d ((z1 d ((pO d).getD f.toNat [])).getD []):Int)=_;rw[e,z];rfl
  rw[Yd O.ok.acc z,P];constructor
  .intro h;exact⟨⟨af,af⟩,⟨B,l⟩,by rw[aR,n2];exact h⟩
  .intro h;have:=h.2.2;rw[aR,n2] at this;exact this
 have D:∀a:Int,0<=a->a<((tys d).length:Int)->∀F∈pO d,∀c,inh d ((tys d).getD a.toNat 0) F=some c->∃q:Nat,GA (tys d) c=(q:Int)/\q<(tys d).length/\(tys d).getD q 0=c:=λa B l F w c G=>O.num (ku af) w G
 refine⟨⟨⟨hd_hm HD K,Iu,λf I f1=> ?_,λa f B l I f1 hs=> ?_,λa f B l I f1 hs=> ?_,λa b f I f1 S h2=> ?_,λa b h=> ?_⟩,HD.length,λa b B l b0 V=> ?_⟩,by show(tys d).length<=1000;omega,h64⟩
 .obtain⟨j,F,rfl,e1,z,w⟩:=L f I f1;obtain⟨u,U,e3⟩:=hio F w;obtain⟨_,n1,n2,_⟩:=O.ok.yG U;have P:(tOf d).io ((j:Nat):Int)=(nu d u:Int):=by
   show(nu d ((z1 d ((pO d).getD (toNat ((j:Nat):Int)) [])).getD []):Int)=_;rw[z,e3];rfl
  obtain⟨g1,g2⟩:=XU e1
  have:((uV d).cE.getD (toNat ((j:Nat):Int)) default).Intro=(nu d u:Int):=by show((yz d).getD (toNat ((j:Nat):Int)) default).Intro=_;rw[aR,aZ,aM g1,g2];show(nu d ((z1 d F).getD []):Int)=_;rw[e3];rfl
  rw[P];exact⟨this,by omega,by show _<((tys d).length:Int);omega⟩
 .obtain⟨i,rfl,N⟩:=Cg B l;obtain⟨j,F,rfl,e1,z,w⟩:=L f I f1;have S:=(R _ _ B l F w z).2 hs;obtain⟨c,G⟩:=kn.1 S;obtain⟨q,q1,q2,q3⟩:=D _ B l F w c G;have ev:(tOf d).vl ((i:Nat):Int) ((j:Nat):Int)=GA (tys d) c:=by
   show(match inh d ((tys d).getD (toNat ((i:Nat):Int)) 0) ((pO d).getD (toNat ((j:Nat):Int)) []) with|some c=>GA (tys d) c|none=>0)=_;rw[z,G]
  rw[aR] at G;rw[o355 O N e1,o356 O N e1,G,ev];exact⟨rfl,rfl,by omega,by show _<((tys d).length:Int);omega⟩
 .obtain⟨i,rfl,N⟩:=Cg B l;obtain⟨j,F,rfl,e1,z,w⟩:=L f I f1;have S:inh d ((tys d).getD (toNat ((i:Nat):Int)) 0) F=none:=by
   cases e:inh d ((tys d).getD (toNat ((i:Nat):Int)) 0) F with
   |none=>rfl
   |some c=>exact absurd ((R _ _ B l F w z).1 (by rw[e];rfl)) hs
  rw[aR] at S;rw[o355 O N e1,o356 O N e1,S];exact⟨0,rfl,rfl⟩
 .obtain⟨j,F,rfl,e1,z,w⟩:=L f I f1;have l:=h2.1;have V:=h2.2.1;have h3:=(R _ _ l.1 l.2 F w z).2 S;obtain⟨c,G⟩:=kn.1 h3;obtain⟨q,q1,q2,q3⟩:=D _ l.1 l.2 F w c G;have h4:=inh_up h2.2.2 h3;obtain⟨c',Q⟩:=kn.1 h4;obtain⟨q',q1',q2',q3'⟩:=D _ V.1 V.2 F w c' Q;have ev:(tOf d).vl a ((j:Nat):Int)=(q:Int):=by
   show(match inh d ((tys d).getD a.toNat 0) ((pO d).getD (toNat ((j:Nat):Int)) []) with|some c=>GA (tys d) c|none=>0)=_;rw[z,G];exact q1
  have ev':(tOf d).vl b ((j:Nat):Int)=(q':Int):=by show(match inh d ((tys d).getD b.toNat 0) ((pO d).getD (toNat ((j:Nat):Int)) []) with|some c=>GA (tys d) c|none=>0)=_;rw[z,Q];exact q1'
  rw[ev,ev'];refine⟨⟨af,af⟩,⟨af,af⟩,?_⟩;rw[aR,aR,q3,q3'];exact aaH h2.2.2 G Q
 .have:=K.Gn a.toNat b.toNat (by have:=h.1;omega) (by have:=h.2.1;omega) h.2.2;have:=h.1;have:=h.2.1;omega
 .obtain⟨i,rfl,N⟩:=Cg B l;obtain⟨j,rfl,hj⟩:=Cg b0 V;refine⟨_,o339 HD N hj,o340 HD N hj,?_⟩;show _↔(tOf d).sb _ _;constructor
  .intro h;exact⟨⟨B,l⟩,⟨b0,V⟩,by rw[aR,aR];exact h⟩
  .intro h;have:=h.2.2;rw[aR,aR] at this;exact this
end Go.Proofs.YthppjmoncapdfaaGreatDoor.cl.pf
namespace Go.Proofs.YthppjmoncapdfaaGreatDoor.cl
open Go Go.AM
def XG {d:List aB}:H9 d=0↔SZ d=false/\vO [] d=0/\xu (jI d) d=0/\CB d=1/\BR d:=by
 unfold H9;constructor
 .intro h;split at h
  .cases h
  split at h
  .rename_i l;exact absurd h l
  split at h
  .rename_i l;exact absurd h l
  split at h
  .cases h
  split at h
  .rename_i q l w z B;exact⟨by simpa using q,dz l,dz w,dz z,B⟩
  .cases h
 .rintro⟨a,b,c,e,f⟩;rw[au (by simp[a]),au (λh=>h b),au (λh=>h c),au (λh=>h e),az f]
def leT (l:List (cL×List cL)) (x y:cL):Bool:=match l.find? λp=>p.1==x with
 |some p=>p.2.contains y
 |none=>false
def Nx (d:List aB) (x:cL):List cL->List cL->Bool
 |_,[]=>true
 |q,y::l=>(y==x||d.any λt=>t.Name==y&&t.dH.any λs=>q.contains s)&&Nx d x (y::q) l
def tabOk (d:List aB) (l:List (cL×List cL)):Bool:=
 (l.all λp=>Nx d p.1 [] p.2)&&(jI d).all λx=>leT l x x&&(jI d).all λy=> !leT l x y||(dn d y).all λz=>leT l x z
def Yu {d:List aB} {x:cL}:∀(l q:List cL),Nx d x q l=true->(∀s∈q,Le d x s)->∀y∈l,Le d x y:=by intro l;induction l with
 |nil=>intro q _ _ y B;cases B
 |cons z l P=>
  intro q h L y B;unfold Nx at h;rw[aJ,fq] at h;have N:Le d x z:=by
   rcases h.1 with D|D
   .rw[gj] at D;rw[D];exact .refl
   .obtain⟨t,O,F⟩:=mQ.1 D;rw[aJ,gj] at F;obtain⟨s,G,I⟩:=mQ.1 F.2;rw[C8] at I;exact .step (L s I) (IV.2 ⟨t,O,F.1,G⟩)
  rcases aG.1 B with rfl|B
  .exact N
  .refine P (z::q) h.2 (λs w=> ?_) y B;rcases aG.1 w with rfl|w
   .exact N
   .exact L s w
def tab_le {d:List aB} {D:List (cL×List cL)} (h:tabOk d D=true):∀x∈jI d,∀y,Le d x y↔leT D x y=true:=by
 unfold tabOk at h;rw[aJ,cz,cz] at h;intro x G y;have q:=h.2 x G;rw[aJ,cz] at q;have key:∀y,Le d x y->y∈jI d/\leT D x y=true:=by intro y l;induction l with
  |refl=>exact⟨G,q.1⟩
  |step _ I L=>
   refine⟨Tr I,?_⟩;have:=q.2 _ L.1;rw[fq,L.2,cz] at this;rcases this with w|w
   .cases w
   .exact w _ I
 constructor
 .intro l;exact(key y l).2
 .intro l;unfold leT at l;split at l
  .rename_i p F;have B:=oH F;have z:p.1=x:=by simpa using oI F
   rw[C8] at l;rw[<-z];exact Yu p.2 [] (h.1 p B) (λs N=>by cases N) y l
  .cases l
def rk (d:List aB) (s:cL):Nat:=(gK (λt:aB=>t.Name==s) d 0).toNat
def chk0 (d:List aB):Bool:= !SZ d&&vO [] d==0&&xu (jI d) d==0&&CB d==1&&d.all λt=>t.dH.all λs=>Nat.blt (rk d s) (rk d t.Name)
def chk0_ok {d:List aB} (h:chk0 d=true):H9 d=0:=by unfold chk0 at h;simp only[aJ,gj,cz] at h;obtain⟨⟨⟨⟨l,q⟩,w⟩,z⟩,B⟩:=h;refine XG.2 ⟨by simpa using l,q,w,z,rk d,λt F s D=> ?_⟩;exact dw (B t F s D)
section
variable (d:List aB) (le:cL->cL->Bool)
def cwC (all:List cL) (x:cL):Nat:=mk 0 ((List.range all.length).filter λi=>le x (all.getD i []))
def XI:List Nat:=(iw d).map (cwC le (iw d))
def WB (l:List cL):List cL:=(mA (l.filter λs=>decide (s∈jI d))).filter λx=>(mA (l.filter λs=>decide (s∈jI d))).all λy=>decide (y=x)|| !le y x
def uE (w:Nat):List cL->List Nat->Nat->List cL->cL
 |s::ss,c::q,i,l=>if c=w then s else uE w ss q (i+1) (if w.testBit i=true then l++[s] else l)
 |_,_,_,l=>rZ [38] (WB d le l)
def Z6:List GL:=((zm (XI d le)).map λw=>((uE d le w (iw d) (XI d le) 0 [],w):GL)).foldl (λE p=>p7 z8 p E) []
def V1 (F:cL):Option cL:=one (WB d le (mA (rR d F)))
def stpC (w:Nat) (F:cL) (o:Option Nat) (t:aB):Option Nat:=match val t F with
 |some v=>if sub w (cwC le (iw d) t.Name)=true then some (comb o (cwC le (iw d) v)) else o
 |none=>o
def inhC (w:Nat) (F:cL):Option Nat:=d.foldl (stpC d le w F) none
variable {d le} (hle:∀x∈jI d,∀y,Le d x y↔le x y=true)
include hle
open Classical in
theorem Tp {all:List cL} {x:cL} (l:x∈jI d):cw d all x=cwC le all x:=by
 unfold cw idxs cwC;congr 1;refine qP λi _=> ?_
 rw[jo,bH];exact hle x l _
theorem VF:nY d=XI d le:=by unfold nY XI;exact gT λx l=>Tp hle (gx.1 l)
theorem IU (l:List cL):u7 d l=WB d le l:=by
 unfold u7 WB;have B:∀x∈mA (l.filter λs=>decide (s∈jI d)),x∈jI d:=λx D=>by have:=(cH.1 (gx.1 D)).2;simpa using this
 generalize mA (l.filter λs=>decide (s∈jI d))=m at B;refine qP λx D=> ?_
 unfold ry;rw[jo,cz,cz];have key:∀y∈m,((decide (y=x)|| !(open Classical in decide (Le d y x)))=true↔(decide (y=x)|| !le y x)=true):=by intro y q;have z:=hle y (B y q) x;cases w:le y x with
  |true=>
   have:Le d y x:=z.2 w
   simp[this]
  |false=>
   have:¬Le d y x:=λh=>by rw[z.1 h] at w;cases w
   simp[this]
 constructor
 .intro h y q;refine(key y q).1 ?_;have:=h y q;simpa using this
 .intro h y q;have:=(key y q).2 (h y q);simpa using this
theorem Nq {w:Nat}:∀(ss:List cL) (q:List Nat) (i:Nat) (l:List cL),mq d w ss q i l=uE d le w ss q i l:=by intro ss;induction ss with
 |nil=>intro q i l;cases q<;>simp only[mq,uE,IU hle]
 |cons s ss z=>intro q i l;cases q with
  |nil=>simp only[mq,uE,IU hle]
  |cons c q=>simp only[mq,uE,z]
theorem Z7:cN d=Z6 d le:=by unfold cN Z6 BF;rw[VF hle];congr 1;exact gT λw _=>by rw[Nq hle]
theorem aaJ (F:cL):z1 d F=V1 d le F:=by unfold z1 V1;rw[IU hle]
theorem inhC_eq (z:Vd d) (w:Nat) (F:cL):inh d w F=inhC d le w F:=by
 have key:∀(l:List aB) (o:Option Nat),(∀t∈l,t∈d)->l.foldl (zo d w F) o=l.foldl (stpC d le w F) o:=by intro l;induction l with
  |nil=>intro o _;rfl
  |cons t l G=>
   intro o h;rw[fD,fD];have q:=h t ah;have e:zo d w F o t=stpC d le w F o t:=by unfold zo stpC;cases D:val t F with
    |none=>rfl
    |some v=>simp only;rw[show cwd d t.Name=cwC le (iw d) t.Name from Tp hle (IY q),show cwd d v=cwC le (iw d) v from Tp hle (z.val q D)]
   rw[e];exact G _ λu B=>h u (by simp[B])
 exact key d none λt h=>h
end
structure At (d:List aB) (le:cL->cL->Bool) (E:List GL):Prop where
 hl:∀x∈jI d,∀y,Le d x y↔le x y=true
 cN:Z6 d le=E
 H9:H9 d=0
def At.tys {d:List aB} {le:cL->cL->Bool} {E:List GL} (h:At d le E):tys d=E.map (·.2):=by unfold cl.tys;rw[Z7 h.hl,h.cN]
def chk5C (d:List aB) (le:cL->cL->Bool) (E:List GL):Int:=
 if(zm (XI d le)).length>256 then 7 else if(pO d).length>64 then 7 else if qG (jI d) d≠0 then qG (jI d) d
 else if((pO d).any λF=>(V1 d le F).isNone)=true then 10 else if((E.map (·.2)).any λw=>(pO d).any λF=>inhC d le w F==some 0)=true then 11 else 0
def At.ym {d:List aB} {le:cL->cL->Bool} {E:List GL} (h:At d le E):ym d=chk5C d le E:=by
 unfold cl.ym chk5C;have I:=h.H9;rw[au (λB=>B I),VF h.hl];by_cases l:(zm (XI d le)).length>256
 .rw[az l,az l]
 .rw[au l,au l];by_cases q:(pO d).length>64
  .rw[az q,az q]
  .rw[au q,au q];by_cases z:qG (jI d) d=0
   .have D:¬(qG (jI d) d≠0):=λB=>B z
    rw[au D,au D];have e1:A8 d (pO d)=(pO d).any λF=>(V1 d le F).isNone:=by unfold A8;congr 1;funext F;rw[aaJ h.hl]
    have G:BW d (cl.tys d)=(E.map (·.2)).any λw=>(pO d).any λF=>inhC d le w F==some 0:=by unfold BW;rw[h.tys];congr 1;funext w;congr 1;funext F;rw[inhC_eq h.hl (Sr z)]
    rw[e1,G]
   .rw[az z,az z]
end Go.Proofs.YthppjmoncapdfaaGreatDoor.cl
set_option maxRecDepth 100000
namespace Go.Proofs.YthppjmoncapdfaaGreatDoor.cl.pf
open Go Go.AM
def szB (d:List aB):Bool:=Nat.ble d.length 64&&d.all λt=>Nat.ble t.dH.length 20&&Nat.ble t.cE.length 100
def adj {d:List aB} (h:szB d=true):Sz d/\d.length<=64/\Fz d:=by
 unfold szB at h;rw[aJ,cz] at h;have q:=dw h.1;have key:∀t∈d,t.dH.length<=20/\t.cE.length<=100:=λt l=>by have:=h.2 t l;rw[aJ] at this;exact⟨dw this.1,dw this.2⟩
 exact⟨⟨af,λt l=>by have:=(key t l).1;omega⟩,q,λt l=>by have:=(key t l).2;omega⟩
def TP:List (cL×List cL):=[([116,111,112],
  [[116,111,112],[108,105,115,116],[100,108,105,115,116],[105,110,100,101,120],[114,101,108],
   [113,101,113],[115,101,109],[115,105,103,110],[99,111,110,115],[110,117,108,108],
   [104,97,110,100,108,101],[101,118,101,110,116],[101,110,116,105,116,121]]),
 ([108,105,115,116],[[108,105,115,116],[99,111,110,115],[110,117,108,108]]),
 ([99,111,110,115],[[99,111,110,115]]),([110,117,108,108],[[110,117,108,108]]),
 ([100,108,105,115,116],[[100,108,105,115,116]]),
 ([105,110,100,101,120],
  [[105,110,100,101,120],[104,97,110,100,108,101],[101,118,101,110,116],
   [101,110,116,105,116,121]]),
 ([104,97,110,100,108,101],[[104,97,110,100,108,101]]),
 ([101,118,101,110,116],[[101,118,101,110,116]]),
 ([101,110,116,105,116,121],[[101,110,116,105,116,121]]),([114,101,108],[[114,101,108]]),
 ([113,101,113],[[113,101,113]]),([115,101,109],[[115,101,109]]),
 ([115,105,103,110],[[115,105,103,110]])]
def EP:List GL:=[([116,111,112],8191),([105,110,100,101,120],60),([108,105,115,116],193),([99,111,110,115],1),
  ([100,108,105,115,116],2),([101,110,116,105,116,121],4),([101,118,101,110,116],8),
  ([104,97,110,100,108,101],16),([110,117,108,108],128),([113,101,113],256),([114,101,108],512),
  ([115,101,109],1024),([115,105,103,110],2048)]
def atP:At NG (leT TP) EP:=⟨tab_le (by kernel_rfl),by kernel_rfl,chk0_ok (by kernel_rfl)⟩
def ckP:ym NG=0:=atP.ym.trans (by kernel_rfl)
def okP:Zg NG:=by obtain⟨z,l,q⟩:=adj (d:=NG) (by kernel_rfl);exact(Je z l q ckP).1
def x332:f332 NG=some (uV NG,0):=by obtain⟨z,l,q⟩:=adj (d:=NG) (by kernel_rfl);rw[c332 z l q,az ckP]
def ZH {d:List aB} (z:Sz d) (B:Fz d):∃(h:bR) (t:TH),f403 d=some h/\t.OK h:=by
 have pre:Option.bind (f327) (λl=>Option.bind (f332 l) λq=>some q.1)=some (uV NG):=by rw[c327,ak,x332,ak]
 by_cases D:d.length<=20
 .by_cases w:ym d=0
  .refine⟨_,_,e403 ?_,MR (Je z af B w).1⟩;rw[cond_pos (by rw[bH];omega),c332 z af B,ak,az w,cond_pos (by rfl)]
  .refine⟨_,_,e403 ?_,MR okP⟩;rw[cond_pos (by rw[bH];omega),c332 z af B,ak,au w,cond_neg (by simpa using w)];exact pre
 .refine⟨_,_,e403 ?_,MR okP⟩;rw[cond_neg (by rw[bP];omega)];exact pre
