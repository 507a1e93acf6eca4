/- Equations over nodes, their universal solution; least upper. -/
import Derived.Test.YthppjmoncapdfaaGreatDoorClXb
set_option linter.all false
open Int (toNat)
open List (length)
namespace Go.Proofs.YthppjmoncapdfaaGreatDoor.cl.pf
open Go Go.AM
structure NP (sb:Int->Int->Prop) (U:Gr) (n:Nat) (W:List (Nat×Nat)) (C:Gr) (m:Nat->Nat):Prop where
 ty:∀x,x<n->sb (U.ty x) (C.ty (m x))
 ar:∀x,x<n->∀p∈U.sc x,(p.1,m p.2)∈C.sc (m x)
 eq:∀p∈W,m p.1=m p.2
def NF (C:Gr):Prop:=∀x,vK (C.sc x)
def Can.Gm {T F:Nat} {f:FSt} (h:Can T F f):NF (mC f):=λx=>h.x5 x
structure SD (T F:Nat) (sb:Int->Int->Prop) (U:Gr) (n:Nat) (W:List (Nat×Nat)) (G:Gr) (ρ:Nat->Nat):Prop where
 go:GO T F G n
 lt:∀x,x<n->ρ x<n
 idem:∀x,x<n->ρ (ρ x)=ρ x
 cls:∀x,x<n->∀p∈G.sc x,ρ p.2=p.2
 WU:NP sb U n W G ρ
 least:∀C m,NF C->NP sb U n W C m->∀x,x<n->m (ρ x)=m x/\sb (G.ty (ρ x)) (C.ty (m x))/\∀p∈G.sc (ρ x),(p.1,m p.2)∈C.sc (m x)
section
variable {T F:Nat} {sb:Int->Int->Prop} (hT:TO T sb) {U:Gr} {n:Nat} {W:List (Nat×Nat)} {G:Gr} {ρ:Nat->Nat} (h:SD T F sb U n W G ρ) {r:Nat} (hr:r<n)
include h hr
theorem SD.can:Can T F (jG G n (ρ r)):=Jv h.go (h.lt r hr)
theorem SD.fix {i:Nat} (w:yY G.sc (ρ r) i):i<n/\ρ i=i:=by induction w with
 |root=>exact⟨h.lt r hr,h.idem r hr⟩
 |step z l q=>exact⟨h.go.bd _ q.1 _ l,h.cls _ q.1 _ l⟩
theorem SD.hom {C:Gr} {m:Nat->Nat} (w:NF C) (z:NP sb U n W C m):CU sb G (ρ r) C (m r) m:=by refine⟨(h.least C m w z r hr).1,λi B=> ?_⟩;obtain⟨l,q⟩:=h.fix hr B;have:=h.least C m w z i l;rw[q] at this;exact this.2
include hT
theorem SD.le {C:FSt} {m:Nat->Nat} (w:Can T F C) (z:NP sb U n W (mC C) m) (q:m r=0):Le sb (jG G n (ρ r)) C:=by have l:=h.hom hr w.Gm z;rw[q] at l;exact⟨_,CU.comp (s1:=sb) (s2:=sb) (s3:=sb) (λa b=>hT.trans a b) (Ld h.go (h.lt r hr) hT.refl) l⟩
theorem SD.part {A:Gr} {s:Nat} {e:Nat->Nat} (z:∀i,yY A.sc s i->e i<n/\U.ty (e i)=A.ty i/\U.sc (e i)=(A.sc i).map λp=>(p.1,e p.2)) (I:ρ (e s)=ρ r):
  CU sb A s (mC (jG G n (ρ r))) 0 (λi=>(ij G n (ρ r)).idxOf (ρ (e i))):=by
 have B:CU sb A s G (ρ r) (λi=>ρ (e i)):=by
  refine⟨I,λi D=> ?_⟩;obtain⟨l,q,w⟩:=z i D;refine⟨?_,λp H=> ?_⟩
  .have:=h.WU.ty _ l;rw[q] at this;exact this
  .have:=h.WU.ar _ l (p.1,e p.2) (by rw[w];exact aA.2 ⟨p,H,rfl⟩);exact this
 exact CU.comp (s1:=sb) (s2:=sb) (s3:=sb) (λa b=>hT.trans a b) B (Lz h.go (h.lt r hr) hT.refl)
end
def NC (l:List (Int×Nat)) (f:Int):Option Nat:=(l.find? λp=>p.1==f).map (·.2)
def qm {l:List (Int×Nat)} (h:vK l) {f:Int} {a:Nat}:NC l f=some a↔(f,a)∈l:=by
 unfold NC;constructor
 .intro e;cases q:l.find? λp=>p.1==f with
  |none=>rw[q] at e;simp at e
  |some p=>rw[q] at e;have z:=s9 q;have w:=td q;simp at e w;rw[<-w,<-e];exact z
 .intro B;cases q:l.find? λp=>p.1==f with
  |none=>have:=xS.1 q _ B;simp at this
  |some p=>
   have z:=s9 q;have w:=td q;simp at w
   have:(f,p.2)∈l:=by rw[<-w];exact z
   rw[bW,h.Gm this B]
def wq (G:Gr):Nat->List Int->Option Nat
 |n,[]=>some n
 |n,f::l=>match NC (G.sc n) f with
  |some k=>wq G k l
  |none=>none
def wU (G:Gr):∀(l q:List Int) (n:Nat),wq G n (l++q)=(wq G n l).bind λk=>wq G k q
 |[],_,_=>rfl
 |f::l,q,n=>by simp only[eM,wq];cases NC (G.sc n) f with
  |none=>rfl
  |some k=>exact wU G l q k
def uU {G:Gr} {π:List Int} {f:Int} {n k:Nat}:wq G n (π++[f])=some k↔∃j,wq G n π=some j/\NC (G.sc j) f=some k:=by
 rw[wU,bZ];constructor
 .rintro⟨j,q,l⟩;refine⟨j,q,?_⟩;simp only[wq] at l;cases e:NC (G.sc j) f with
  |none=>rw[e] at l;cases l
  |some k'=>rw[e] at l;exact l
 .rintro⟨j,q,l⟩;exact⟨j,q,by simp only[wq,l]⟩
def EL {sb:Int->Int->Prop} {G H:Gr} {r s:Nat} {m:Nat->Nat} (h:CU sb G r H s m) (B:∀i,yY G.sc r i->vK (G.sc i)) (D:NF H):∀(q:List Int) (i k:Nat),yY G.sc r i->wq G i q=some k->yY G.sc r k/\wq H (m i) q=some (m k)
 |[],i,k,l,e=>by simp only[wq] at e;cases e;exact⟨l,rfl⟩
 |f::q,i,k,l,e=>by simp only[wq] at e;cases w:NC (G.sc i) f with
  |none=>rw[w] at e;cases e
  |some j=>rw[w] at e;have I:=(qm (B i l)).1 w;have K:=(h.2 i l).2 _ I;have z:=EL h B D q j k (l.step (p:=(f,j)) I) e;refine⟨z.1,?_⟩;simp only[wq];rw[(qm (D _)).2 K];exact z.2
def K9 {G:Gr} {r:Nat} (z:∀i,yY G.sc r i->vK (G.sc i)):∀(w:List Int) (i k:Nat),yY G.sc r i->wq G i w=some k->yY G.sc r k
 |[],i,k,l,e=>by simp only[wq] at e;cases e;exact l
 |f::w,i,k,l,e=>by simp only[wq] at e;cases q:NC (G.sc i) f with
  |none=>rw[q] at e;cases e
  |some j=>rw[q] at e;exact K9 z w j k (l.step (p:=(f,j)) ((qm (z i l)).1 q)) e
abbrev wT (f:FSt) (π:List Int):Option Nat:=wq (mC f) 0 π
def HP {T F:Nat} {sb:Int->Int->Prop} {f g:FSt} (q:Can T F f) (w:Can T F g) {m:Nat->Nat} (h:CU sb (mC f) 0 (mC g) 0 m) {l:List Int} {k:Nat} (e:wT f l=some k):wT g l=some (m k):=by have:=(EL h (λi _=>q.x5 i) w.Gm l 0 k .root e).2;rw[h.1] at this;exact this
def Sk (f:FSt) (P:List (List Int)):Prop:=∀k,k<f.au.length->∃l∈P,wT f l=some k
def NT:∀{n:Nat} {l:List Nat},(∀k,k<n->k∈l)->n<=l.length
 |0,_,_=>cB _
 |n+1,l,h=>by
  have q:=h n af;have w:n<=(l.erase n).length:=NT λk z=>(List.mem_erase_of_ne af).2 (h k af)
  rw[List.length_erase_of_mem q] at w;have:=xR q;omega
def Sk.le {f:FSt} {P:List (List Int)} (h:Sk f P):f.au.length<=P.length:=by
 have:f.au.length<=(P.filterMap λl=>wT f l).length:=NT λk q=>by obtain⟨l,w,e⟩:=h k q;exact dR.2 ⟨l,w,e⟩
 exact cV this (xT _ _)
end Go.Proofs.YthppjmoncapdfaaGreatDoor.cl.pf
namespace Go.Proofs.YthppjmoncapdfaaGreatDoor.cl.pf
open Go Go.AM
section
variable {R:Type}
def AZ {l:List Int} {i:Nat} (h:i<l.length) (k:Int->Option R):check (0<=(i:Int)/\toNat (i:Int)<l.length) (fm l (toNat (i:Int)) k)=k (l.getD i 0):=by rw[bJ ⟨af,by simpa using h⟩,bf];exact Lu h k
def WM {q:Type} {l:List (List q)} {i:Nat} (h:i<l.length) (k:List q->Option R):check (0<=(i:Int)/\toNat (i:Int)<l.length) (fm l (toNat (i:Int)) k)=k (l.getD i []):=by rw[bJ ⟨af,by simpa using h⟩,bf];exact Lu h k
theorem yc {l:Nat} {i:Nat} (h:i<l) (a:Option R):check (0<=(i:Int)/\toNat (i:Int)<l) a=a:=bJ ⟨af,by simpa using h⟩ a
def iy {l q w z:Type} (a:l) (b:q) (c:w) (d:z) (k:l->q->w->z->Option R):um (some (a,b,c,d)) k=k a b c d:=rfl
def od {l q w z B:Type} (a:l) (b:q) (c:w) (d:z) (e:B) (k:l->q->w->z->B->Option R):zT (some (a,b,c,d,e)) k=k a b c d e:=rfl
def Bq {l q w z B D:Type} (a:l) (b:q) (c:w) (d:z) (e:B) (g:D) (k:l->q->w->z->B->D->Option R):GD (some (a,b,c,d,e,g)) k=k a b c d e g:=rfl
end
def fe {q:Type} (l:List q) (i j:Nat) (v d:q):(l.set i v).getD j d=if i=j/\j<l.length then v else l.getD j d:=by
 rw[bQ,bQ,oN];by_cases e:i=j
 .subst e;by_cases h:i<l.length
  .simp[h]
  .simp[h]
 .simp[e]
structure PI (n:Nat) (par:List Int) (rep d:Nat->Nat):Prop where
 len:par.length=n
 up:∀x,x<n->∃y,y<n/\par.getD x 0=(y:Int)/\rep y=rep x/\(y=x\/d y<d x)
 fix:∀x,x<n->(par.getD x 0=(x:Int)↔rep x=x)
 rl:∀x,x<n->rep x<n
 rr:∀x,x<n->rep (rep x)=rep x
section
variable {n:Nat} {rep d:Nat->Nat} {TL:List gA} {FL:List dg} {ty:List Int} {ar:List (List bD)}
def h485:∀(k x:Nat) (par:List Int),d x<=k->x<n->PI n par rep d->∃q,CK (x:Int) TL FL par ty ar=some (((rep x:Nat):Int),q,ty,ar)/\PI n q rep d:=by intro k;induction k with
 |zero=>
  intro x par hk D P;obtain⟨y,S,B,L,h3⟩:=P.up x D;have l:x<par.length:=by rw[P.len];exact D
  have e:y=x:=af;subst e;refine⟨par,Ke ?_,P⟩;rw[AZ l,B,cond_neg ah,(P.fix y D).1 B]
 |succ k ih=>
  intro x par hk D P;obtain⟨y,S,B,L,h3⟩:=P.up x D;have l:x<par.length:=by rw[P.len];exact D
  have V:y<par.length:=by rw[P.len];exact S
  by_cases e:y=x
  .subst e;refine⟨par,Ke ?_,P⟩;rw[AZ l,B,cond_neg ah,(P.fix y D).1 B]
  .have h3:d y<d x:=af;obtain⟨z,hz,g1,g2,g3⟩:=P.up y S;have I:d z<d x:=by rcases g3 with rfl|g3<;>omega
   have P':PI n (par.set x z) rep d:=by
    refine⟨by rw[gr];exact P.len,λw O=> ?_,λw O=> ?_,P.rl,P.rr⟩
    .by_cases H:x=w
     .subst H;exact⟨z,hz,by rw[fe,ak ⟨rfl,l⟩],by rw[g2,L], .inr I⟩
     .obtain⟨v,N⟩:=P.up w O;exact⟨v,N.1,by rw[fe,az (λh=>H h.1)];exact N.2.1,N.2.2⟩
    .by_cases H:x=w
     .subst H;rw[fe,ak ⟨rfl,l⟩];have hxz:z≠x:=λe=>by rw[e] at I;omega
      have:=P.fix x D;rw[B] at this;constructor
      .intro h;omega
      .intro h;have:=this.2 h;omega
     .rw[fe,az (λh=>H h.1)];exact P.fix w O
   obtain⟨q,r1,r2⟩:=ih z (par.set x z) af hz P';refine⟨q,Ke ?_,r2⟩;rw[AZ l,B,cond_pos aX,AZ l,B,AZ V,g1,AZ l,bf];have hs:x<(par.set x (z:Int)).length:=by rw[gr];exact l
   have h0:=AZ hs (λK=>CK K TL FL (par.set x (z:Int)) ty ar);rw[bf] at h0;rw[h0,fe,ak ⟨rfl,l⟩,r1,g2,L]
def TA {x:Nat} {par:List Int} (z:x<n) (P:PI n par rep d):∃l,f485 (x:Int) TL FL par ty ar=some (((rep x:Nat):Int),l,ty,ar)/\PI n l rep d:=by obtain⟨l,q,w⟩:=h485 (TL:=TL) (FL:=FL) (ty:=ty) (ar:=ar) (d x) x par (aJ _) z P;exact⟨l,e485 q,w⟩
end
def mg:List bD->List bD->List bD×List di
 |[],l=>(l,[])
 |x::xs,[]=>(x::xs,[])
 |x::xs,y::l=>
  if x.aV<y.aV then(x::(mg xs (y::l)).1,(mg xs (y::l)).2)
  else if y.aV<x.aV then(y::(mg (x::xs) l).1,(mg (x::xs) l).2)
  else(x::(mg xs l).1,⟨x.To,y.To⟩::(mg xs l).2)
 termination_by x y=>x.length+y.length
def zl (l:List bD):mg [] l=(l,[]):=by rw[mg]
def AU (xs:List bD):mg xs []=(xs,[]):=by cases xs<;>rw[mg]
def PZ {x y:bD} (xs l:List bD) (h:x.aV<y.aV):mg (x::xs) (y::l)=(x::(mg xs (y::l)).1,(mg xs (y::l)).2):=by rw[mg,ak h]
def PY {x y:bD} (xs l:List bD) (h:y.aV<x.aV):mg (x::xs) (y::l)=(y::(mg (x::xs) l).1,(mg (x::xs) l).2):=by rw[mg,az af,ak h]
def PX {x y:bD} (xs l:List bD) (h:x.aV=y.aV):mg (x::xs) (y::l)=(x::(mg xs l).1,⟨x.To,y.To⟩::(mg xs l).2):=by rw[mg,az af,az af]
structure MG (x y:List bD) (r:List bD×List di):Prop where
 sub:∀a∈r.1,a∈x\/a∈y
 left:∀a∈x,a∈r.1
 right:∀a∈y,∃b∈r.1,b.aV=a.aV/\(b=a\/⟨b.To,a.To⟩∈r.2)
 pair:∀p∈r.2,∃a∈x,∃b∈y,a.aV=b.aV/\p=⟨a.To,b.To⟩
 le:r.2.length<=y.length
def y7 (l:List bD):Prop:=l.Pairwise λp q=>p.aV<q.aV
def Ad:∀(k:Nat) (x y:List bD),x.length+y.length<=k->MG x y (mg x y)
 |_,[],y,_=>by rw[zl];exact⟨λa h=> .inr h,λa h=>by(cases h),λa h=>⟨a,h,rfl, .inl rfl⟩,λp h=>by(cases h),cB _⟩
 |_,x::xs,[],_=>by rw[AU];exact⟨λa h=> .inl h,λa h=>h,λa h=>by(cases h),λp h=>by(cases h),cB _⟩
 |0,x::xs,y::w,h=>by simp at h
 |k+1,x::xs,y::w,h=>by
  simp only[aT] at h;rcases tf x.aV y.aV with D|q|B
  .rw[PZ _ _ D];have M:=Ad k xs (y::w) (by simp only[aT];omega);refine⟨λa h=> ?_,λa h=> ?_,λa h=> ?_,λp h=> ?_,M.le⟩
   .rcases aD.1 h with rfl|h
    .exact .inl ah
    .rcases M.sub a h with h|h
     .exact .inl (by simp[h])
     .exact .inr h
   .rcases aD.1 h with rfl|h
    .simp
    .exact cK _ (M.left a h)
   .obtain⟨b,hb,l⟩:=M.right a h;exact⟨b,cK _ hb,l⟩
   .obtain⟨a,ha,b,hb,l⟩:=M.pair p h;exact⟨a,cK _ ha,b,hb,l⟩
  .rw[PX _ _ q];have M:=Ad k xs w af;refine⟨λa h=> ?_,λa h=> ?_,λa h=> ?_,λp h=> ?_,by simp only[aT];have:=M.le;omega⟩
   .rcases aD.1 h with rfl|h
    .exact .inl ah
    .rcases M.sub a h with h|h
     .exact .inl (by simp[h])
     .exact .inr (by simp[h])
   .rcases aD.1 h with rfl|h
    .simp
    .exact cK _ (M.left a h)
   .rcases aD.1 h with rfl|h
    .exact⟨x,by simp,q, .inr ah⟩
    .obtain⟨b,hb,l,z⟩:=M.right a h;exact⟨b,cK _ hb,l,z.imp id (cK _)⟩
   .rcases aD.1 h with rfl|h
    .exact⟨x,by simp,y,by simp,q,rfl⟩
    .obtain⟨a,ha,b,hb,l⟩:=M.pair p h;exact⟨a,cK _ ha,b,cK _ hb,l⟩
  .rw[PY _ _ B];have M:=Ad k (x::xs) w (by simp only[aT];omega);refine⟨λa h=> ?_,λa h=> ?_,λa h=> ?_,λp h=> ?_,by simp only[aT];have:=M.le;omega⟩
   .rcases aD.1 h with rfl|h
    .exact .inr ah
    .rcases M.sub a h with h|h
     .exact .inl h
     .exact .inr (by simp[h])
   .exact cK _ (M.left a h)
   .rcases aD.1 h with rfl|h
    .exact⟨a,by simp,rfl, .inl rfl⟩
    .obtain⟨b,hb,l,z⟩:=M.right a h;exact⟨b,cK _ hb,l,z⟩
   .obtain⟨a,ha,b,hb,l⟩:=M.pair p h;exact⟨a,ha,b,cK _ hb,l⟩
def EV:∀(k:Nat) (x y:List bD),x.length+y.length<=k->y7 x->y7 y->y7 (mg x y).1
 |_,[],y,_,_,h=>by rw[zl];exact h
 |_,x::xs,[],_,h,_=>by rw[AU];exact h
 |0,x::xs,y::w,h,_,_=>by simp at h
 |k+1,x::xs,y::w,h,H,I=>by
  simp only[aT] at h;have l:=c9.1 H;have q:=c9.1 I;rcases tf x.aV y.aV with B|D|z
  .rw[PZ _ _ B];refine c9.2 ⟨λa ha=> ?_,EV k xs (y::w) (by simp only[aT];omega) l.2 I⟩;rcases(Ad k xs (y::w) (by simp only[aT];omega)).sub a ha with h|h
   .exact l.1 a h
   .rcases aD.1 h with rfl|h
    .exact B
    .have:=q.1 a h;omega
  .rw[PX _ _ D];refine c9.2 ⟨λa ha=> ?_,EV k xs w af l.2 q.2⟩;rcases(Ad k xs w af).sub a ha with h|h
   .exact l.1 a h
   .have:=q.1 a h;omega
  .rw[PY _ _ z];refine c9.2 ⟨λa ha=> ?_,EV k (x::xs) w (by simp only[aT];omega) H q.2⟩;rcases(Ad k (x::xs) w (by simp only[aT];omega)).sub a ha with h|h
   .rcases aD.1 h with rfl|h
    .exact z
    .have:=l.1 a h;omega
   .exact q.1 a h
def vX {q:Type} (x:q) (l:List q):((x::l).take (length (x::l))).drop (toNat (1:Int))=l:=by rw[fF];rfl
def vL {q R:Type} (x:q) (l:List q) (a:Option R):check (0<=(1:Int)/\(1:Int)<=(length (x::l):Nat)) a=a:=bJ ⟨af,by simp only[aT];omega⟩ a
def fU {q R:Type} (x:q) (l:List q) (k:q->Option R):bF (x::l) 0 k=k x:=Hv af rfl k
def h486 {a:Nat} {TL:List gA} {FL:List dg} {par ty:List Int} {ar:List (List bD)} (ha:a<ar.length):∀(k:Nat) (x y q:List bD) (wt:List di),x.length+y.length<=k->x.length+y.length+q.length<=1000000000->wt.length+y.length<=1000000000->
  kg (a:Int) x y q TL FL wt par ty ar=some (true,wt++(mg x y).2,par,ty,ar.set a (q++(mg x y).1)):=by
 intro k;induction k with
 |zero=>intro x y q wt L _ _;have O:x=[]:=qa.1 af;have S:y=[]:=qa.1 af;subst O;subst S;refine PL ?_;rw[cond_neg (by rfl),cond_neg (by rfl),WM ha,zl,eT,eT,bf]
 |succ k I=>
  intro x y q wt L w B;refine PL ?_;have P:∀{K:Type} (x:K) (l:List K),decide ((length (x::l):Int)>0)=true:=λx l=>by rw[bG,aT];omega
  have Z:∀{K:Type} (x:K) (l:List K),((length (x::l):Int)==0)=false:=λx l=>by rw[kY,aT];omega
  cases x with
  |nil=>cases y with
   |nil=>rw[cond_neg (by rfl),cond_neg (by rfl),WM ha,zl,eT,eT,bf]
   |cons y z=>
    simp only[aT,cL] at L w B
    rw[cond_neg (by rfl),cond_pos (P y z),cond_neg (Z y z),cond_neg (by rfl),cond_pos (by rfl),fU,cu _ af ah af,vL,vX,
     I [] z (q++[y]) wt aX aX af,zl,zl]
    simp
  |cons x xs=>cases y with
   |nil=>
    simp only[aT,cL] at L w B
    rw[cond_pos (P x xs),cond_pos (by rfl),fU,cu _ af ah af,vL,vX,
     I xs [] (q++[x]) wt aX aX aX,AU,AU]
    simp
   |cons y z=>
    simp only[aT] at L w B;rw[cond_pos (P x xs),cond_neg (Z y z),cond_pos (P x xs),fU,fU];rcases tf x.aV y.aV with H|N|D
    .rw[cond_pos (by rw[bG];exact H),fU,cu _ af ah af,vL,vX,
      I xs (y::z) (q++[x]) wt aX aX aX,PZ _ _ H]
     simp
    .rw[cond_neg (by rw[bM];omega),cond_neg (Z x xs),fU,fU,cond_neg (by rw[bM];omega),fU,fU,cu _ af ah af,fU,cu _ af ah af,vL,vL,vX,vX,
      I xs z (q++[x]) _ af aX aX,PX _ _ N]
     simp
    .rw[cond_neg (by rw[bM];omega),cond_neg (Z x xs),fU,fU,cond_pos (by rw[bG];exact D),fU,cu _ af ah af,vL,vX,
      I (x::xs) z (q++[y]) wt aX aX af,PY _ _ D]
     simp
end Go.Proofs.YthppjmoncapdfaaGreatDoor.cl.pf
namespace Go.Proofs.YthppjmoncapdfaaGreatDoor.cl.pf
open Go Go.AM
structure HM (h:dr) (T:Nat) (sb:Int->Int->Prop):Prop where
 to:TO T sb
 mt:∀a b:Int,0<=a->a<(T:Int)->0<=b->b<(T:Int)->
  (∃t,f335 h a b=some (t,true)/\f336 h a b=some (t,true)/\sb a t/\sb b t/\∀c,sb a c->sb b c->sb t c)\/
  (∃t,f335 h a b=some (t,false)/\f336 h a b=some (t,false)/\∀c,sb a c->sb b c->False)
def I4 (l:List di):List (Nat×Nat):=l.map λp=>(p.a0.toNat,p.a1.toNat)
def wj (rep:Nat->Nat) (wt:List (Nat×Nat)) (x y:Nat):Prop:=∀E:Nat->Nat->Prop,Equivalence E->(∀a b,rep a=rep b->E a b)->(∀p∈wt,E p.1 p.2)->E x y
def wj.imp {rep l:Nat->Nat} {wt q:List (Nat×Nat)} {x y:Nat} (B:∀a b,rep a=rep b->wj l q a b) (D:∀p∈wt,wj l q p.1 p.2) (h:wj rep wt x y):wj l q x y:=
 λE w hr z=>h E w (λa b hab=>B a b hab E w hr z) λp H=>D p H E w hr z
def wj.zo {rep:Nat->Nat} {wt:List (Nat×Nat)} {x y:Nat} (h:rep x=rep y):wj rep wt x y:=λE _ hr _=>hr x y h
theorem wj.LX {rep:Nat->Nat} {wt:List (Nat×Nat)} {p:Nat×Nat} (h:p∈wt):wj rep wt p.1 p.2:=λE _ _ l=>l p h
def wj.symm {rep:Nat->Nat} {wt:List (Nat×Nat)} {x y:Nat} (h:wj rep wt x y):wj rep wt y x:=λE l hr q=>l.symm (h E l hr q)
def wj.trans {rep:Nat->Nat} {wt:List (Nat×Nat)} {x y z:Nat} (h:wj rep wt x y) (w:wj rep wt y z):wj rep wt x z:=λE l hr q=>l.trans (h E l hr q) (w E l hr q)
def wj.done {rep:Nat->Nat} {x y:Nat} (h:wj rep [] x y):rep x=rep y:=
 h (λa b=>rep a=rep b) ⟨λ_=>rfl,λh=>h.symm,λh l=>h.trans l⟩ (λ_ _ h=>h) (λp q=>by cases q)
structure AO (F n:Nat) (l:List bD):Prop where
 x5:y7 l
 ok:∀a∈l,(0<=a.aV/\a.aV<(F:Int))/\0<=a.To/\a.To<(n:Int)
def AO.len {F n:Nat} {l:List bD} (h:AO F n l):l.length<=F:=by
 have:=uw (N:=F) (o:=l.map λa=>a.aV.toNat) (by
  have q:=h.x5;have w:=h.ok;clear h;induction l with
  |nil=>simp
  |cons x l H=>
   have z:=c9.1 q;rw[aK,gl];refine⟨λI=> ?_,H z.2 λa ha=>w a (by simp[ha])⟩
   grind) (λx B=>by
  obtain⟨y,D,rfl⟩:=aA.1 B;have:=(h.ok y D).1
  omega)
 simp_all
def AO.mg {F n:Nat} {x y:List bD} (l:AO F n x) (q:AO F n y):AO F n (mg x y).1:=
 ⟨EV _ x y (aJ _) l.x5 q.x5,λa ha=>((Ad _ x y (aJ _)).sub a ha).elim (l.ok a) (q.ok a)⟩
structure JI (T:Nat) (Q:List bD->Prop) (sb:Int->Int->Prop) (U:Gr) (n:Nat) (W:List (Nat×Nat)) (wt:List di) (par ty:List Int) (ar:List (List bD)) (rep d:Nat->Nat):Prop where
 pi:PI n par rep d
 lt:ty.length=n
 la:ar.length=n
 tr:∀x,x<n->0<=ty.getD x 0/\ty.getD x 0<(T:Int)
 ao:∀x,x<n->Q (ar.getD x [])
 wo:∀p∈wt,(0<=p.a0/\p.a0<(n:Int))/\0<=p.a1/\p.a1<(n:Int)
 sty:∀x,x<n->sb (U.ty x) (ty.getD (rep x) 0)
 Vq:∀x,x<n->∀p∈U.sc x,∃a∈ar.getD (rep x) [],a.aV=p.1/\wj rep (I4 wt) p.2 a.To.toNat
 seq:∀p∈W,wj rep (I4 wt) p.1 p.2
 c4:∀C m,NF C->NP sb U n W C m->(∀x,x<n->m (rep x)=m x)/\(∀x,x<n->rep x=x->sb (ty.getD x 0) (C.ty (m x))/\∀a∈ar.getD x [],(a.aV,m a.To.toNat)∈C.sc (m x))/\∀p∈I4 wt,m p.1=m p.2
def cnt (n:Nat) (rep:Nat->Nat):Nat:=((List.range n).filter λx=>rep x==x).length
section
variable {T:Nat} {Q:List bD->Prop} {sb:Int->Int->Prop} {U:Gr} {n:Nat} {W:List (Nat×Nat)} {wt:List di} {par ty:List Int} {ar:List (List bD)} {rep d:Nat->Nat}
def vj (p:di):I4 (wt++[p])=I4 wt++[(p.a0.toNat,p.a1.toNat)]:=by simp[I4]
def JI.nZ (h:JI T Q sb U n W wt par ty ar rep d) {l:List Int} {q:Nat->Nat} (w:PI n l rep q):JI T Q sb U n W wt l ty ar rep q:={ h with pi:=w }
def JI.skip {p:di} (h:JI T Q sb U n W (wt++[p]) par ty ar rep d) (e:rep p.a0.toNat=rep p.a1.toNat):JI T Q sb U n W wt par ty ar rep d:=by
 have key:∀{x y},wj _ (I4 (wt++[p])) x y->wj _ _ x y:=λ{x y}=>wj.imp (λa b hab=> .zo hab) λq l=>by
  rw[vj] at l;rcases bn.1 l with l|l
  .exact .LX l
  .rw[cD] at l;subst l;exact .zo e
 refine { h with wo:=λq l=>h.wo q (by simp[l]),Vq:=λx I q l=> ?_,seq:=λq l=>key (h.seq q l),c4:=λC m D H=> ?_ }
 .obtain⟨a,w,z,B⟩:=h.Vq x I q l;grind
 .obtain⟨w,z,B⟩:=h.c4 C m D H;exact⟨w,z,λq l=>B q (by rw[vj];grind)⟩
def JI.start {a b:Nat} (h:JI T Q sb U n W [] par ty ar rep d) (ha:a<n) (hb:b<n):JI T Q sb U n (W++[(a,b)]) [⟨a,b⟩] par ty ar rep d:=by
 have key:∀{x y},wj rep (I4 []) x y->wj _ (I4 [⟨(a),b⟩]) x y:=λ{x y}=>wj.imp (λa b hab=> .zo hab) λq l=>by cases l
 refine { h with wo:=λq l=> ?_,Vq:=λx K q l=> ?_,seq:=λq l=> ?_,c4:=λC m H w=> ?_ }
 .simp_all
 .obtain⟨c,z,B,D⟩:=h.Vq x K q l;grind
 .rcases bn.1 l with l|l
  .exact key (h.seq q l)
  grind[wj.LX,I4]
 .obtain⟨z,B,D⟩:=h.c4 C m H { w with eq:=λp I=>w.eq p (by simp[I]) };refine⟨z,B,λq l=> ?_⟩;simp[I4,aK,cW,cD] at l;subst l;exact w.eq _ ah
section
variable {p:di} (h:JI T Q sb U n W (wt++[p]) par ty ar rep d) {a b:Nat} (ha:rep p.a0.toNat=a) (hb:rep p.a1.toNat=b) (hab:a≠b)
include h
theorem JI.pn:p.a0.toNat<n/\p.a1.toNat<n:=by have:=h.wo p ah;omega
include ha hb
theorem JI.rn:a<n/\b<n/\rep a=a/\rep b=b:=by obtain⟨l,q⟩:=h.pn;have w:=h.pi.rl _ l;have z:=h.pi.rl _ q;have B:=h.pi.rr _ l;have D:=h.pi.rr _ q;simp_all
theorem JI.meq {C:Gr} {m:Nat->Nat} (q:NF C) (w:NP sb U n W C m):m a=m b:=by obtain⟨B,D⟩:=h.pn;obtain⟨z,_,l⟩:=h.c4 C m q w;have:=l (p.a0.toNat,p.a1.toNat) (by rw[vj];simp);grind
theorem JI.no (D:∀c,sb (ty.getD a 0) c->sb (ty.getD b 0) c->False) (C:Gr) (m:Nat->Nat) (l:NF C) (q:NP sb U n W C m):False:=by obtain⟨z,H,B,I⟩:=h.rn ha hb;obtain⟨_,w,_⟩:=h.c4 C m l q;refine D _ (w a z B).1 ?_;rw[h.meq ha hb l q];simp_all
include hab
theorem JI.merge (hQ:∀l,Q l->∀c∈l,0<=c.To/\c.To<(n:Int)) (hT:∀{a b c},sb a b->sb b c->sb a c) {r:List bD×List di} (M:MG (ar.getD a []) (ar.getD b []) r) (w:Q r.1) {t:Int} (t0:0<=t/\t<(T:Int)) (t1:sb (ty.getD a 0) t) (t2:sb (ty.getD b 0) t) (t3:∀c,sb (ty.getD a 0) c->sb (ty.getD b 0) c->sb t c):
  JI T Q sb U n W (wt++r.2) (par.set b a) (ty.set a t) (ar.set a r.1) (λx=>if rep x=b then a else rep x) (λx=>if rep x=b then d x+d a+1 else d x):=by
 obtain⟨D,O,I,L⟩:=h.rn ha hb;have key:∀{x y},wj rep (I4 (wt++[p])) x y->wj (λx=>if rep x=b then a else rep x) (I4 (wt++r.2)) x y:=λ{x y}=>wj.imp (λu v P=> .zo (by show(if _ then _ else _)=if _ then _ else _;rw[P])) λq w=>by
  rw[vj] at w;rcases bn.1 w with w|w
  .exact .LX (by unfold I4 at *;rw[bw];simp[w])
  .rw[cD] at w;subst w;refine .zo ?_;show(if _ then _ else _)=if _ then _ else _
   rw[ha,hb,az hab,ak rfl]
 have LA:b<par.length:=by rw[h.pi.len];exact O
 have hne:∀x,rep x=b->x≠a:=λx e z=>hab (by rw[<-e,z,I])
 refine⟨⟨by rw[gr];exact h.pi.len,λx B=> ?_,λx B=> ?_,λx B=> ?_,λx B=> ?_⟩,by rw[gr];exact h.lt,by rw[gr];exact h.la,λx B=> ?_,λx B=> ?_,λq w=> ?_,λx B=> ?_,λx B q w=> ?_,λq w=>key (h.seq q w),λC m hC hs=> ?_⟩
 .by_cases e:b=x
  .subst e;refine⟨a,D,by rw[fe,ak ⟨rfl,LA⟩],?_, .inr ?_⟩
   .show(if _ then _ else _)=if _ then _ else _
    rw[I,L,az hab,ak rfl]
   .show(if _ then _ else _)<if _ then _ else _
    rw[I,L,az hab,ak rfl];omega
  .obtain⟨y,hy,g1,g2,g3⟩:=h.pi.up x B;refine⟨y,hy,by rw[fe,az (λh=>e h.1)];exact g1,?_,?_⟩
   .show(if _ then _ else _)=if _ then _ else _
    rw[g2]
   .refine g3.imp id λg3=> ?_
    show(if _ then _ else _)<if _ then _ else _
    rw[g2];by_cases z:rep x=b
    .rw[ak z,ak z];omega
    .rw[az z,az z];exact g3
 .show _↔(if rep x=b then a else rep x)=x;by_cases e:b=x
  .subst e;rw[fe,ak ⟨rfl,LA⟩,ak L];omega
  .rw[fe,az (λh=>e h.1),h.pi.fix x B];by_cases z:rep x=b
   .rw[ak z];have:=hne x z;omega
   .rw[az z]
 .show(if _ then _ else _)<n;split
  .exact D
  .exact h.pi.rl x B
 .show(if rep (if rep x=b then a else rep x)=b then a else rep (if rep x=b then a else rep x))=if rep x=b then a else rep x
  by_cases z:rep x=b
  .rw[ak z,I,az hab]
  .rw[az z,h.pi.rr x B,az z]
 .rw[fe];split
  .exact t0
  .exact h.tr x B
 .rw[fe];split
  .exact w
  .exact h.ao x B
 .rcases bn.1 w with w|w
  .exact h.wo q (by simp[w])
  .obtain⟨u,hu,v,hv,_,rfl⟩:=M.pair q w;exact⟨hQ _ (h.ao a D) u hu,hQ _ (h.ao b O) v hv⟩
 .have V:=h.sty x B;show sb _ ((ty.set a t).getD (if rep x=b then a else rep x) 0);have H:a<ty.length:=by rw[h.lt];exact D
  by_cases z:rep x=b
  .rw[ak z,fe,ak ⟨rfl,H⟩];rw[z] at V;exact hT V t2
  .rw[az z];by_cases K:a=rep x
   .rw[<-K,fe,ak ⟨rfl,H⟩];rw[<-K] at V;exact hT V t1
   .rw[fe,az (λh=>K h.1)];exact V
 .obtain⟨c,N,S,h3⟩:=h.Vq x B q w;have H:a<ar.length:=by rw[h.la];exact D
  show∃c∈(ar.set a _).getD (if rep x=b then a else rep x) [],_;by_cases z:rep x=b
  .rw[ak z,fe,ak ⟨rfl,H⟩];rw[z] at N;obtain⟨c',m1,m2,m3⟩:=M.right c N;refine⟨c',m1,by rw[m2,S],?_⟩;rcases m3 with rfl|m3
   .exact key h3
   .refine(key h3).trans (wj.symm (wj.LX (p:=(c'.To.toNat,c.To.toNat)) ?_));unfold I4;rw[bw];exact qb _ (aA.2 ⟨_,m3,rfl⟩)
  .rw[az z];by_cases K:a=rep x
   .rw[<-K,fe,ak ⟨rfl,H⟩];rw[<-K] at N;exact⟨c,M.left c N,S,key h3⟩
   .rw[fe,az (λh=>K h.1)];exact⟨c,N,S,key h3⟩
 .obtain⟨e1,z,K⟩:=h.c4 C m hC hs;have hm:=h.meq ha hb hC hs;have H:a<ar.length:=by rw[h.la];exact D
  have hal':a<ty.length:=by rw[h.lt];exact D
  obtain⟨a1,a2⟩:=z a D I;obtain⟨b1,b2⟩:=z b O L;rw[<-hm] at b1 b2;refine⟨λx B=> ?_,λx B hr=> ?_,λq w=> ?_⟩
  .show m (if rep x=b then a else rep x)=m x;by_cases e:rep x=b
   .rw[ak e,hm,<-e,e1 x B]
   .rw[az e,e1 x B]
  .have hr:(if rep x=b then a else rep x)=x:=hr;by_cases e:rep x=b
   .rw[ak e] at hr;exact absurd hr.symm (hne x e)
   .rw[az e] at hr;by_cases e4:a=x
    .subst e4;rw[fe,ak ⟨rfl,hal'⟩,fe,ak ⟨rfl,H⟩];exact⟨t3 _ a1 b1,λc hc=>(M.sub c hc).elim (a2 c) (b2 c)⟩
    .rw[fe,az (λh=>e4 h.1),fe,az (λh=>e4 h.1)];exact z x B hr
  .unfold I4 at w;rw[bw] at w;rcases bn.1 w with w|w
   .exact K q (by rw[vj];exact eS _ w)
   .obtain⟨r',hr,rfl⟩:=aA.1 w;obtain⟨u,hu,v,hv,P,rfl⟩:=M.pair r' hr;have N:=a2 u hu;have S:=b2 v hv;rw[<-P] at S;exact(hC _).Gm N S
theorem Ms:cnt n (λx=>if rep x=b then a else rep x)+1<=cnt n rep:=by
 obtain⟨q,l,w,z⟩:=h.rn ha hb;have e:(List.range n).filter (λx=>(if rep x=b then a else rep x)==x)=((List.range n).filter λx=>rep x==x).filter λx=>x !=b:=by
  rw[List.filter_filter];refine List.filter_congr λx _=> ?_
  by_cases B:rep x=b<;>grind
 unfold cnt;rw[e];exact List.length_filter_lt_length_iff_exists.2 ⟨b,jY.2 ⟨fC.2 l,by simp_all⟩,ah⟩
end
end
def h443 {h:dr} {T F n:Nat} {sb:Int->Int->Prop} (H:HM h T sb) {U:Gr} {W:List (Nat×Nat)} {o:List di} (hF:F<=1000000):∀(c k:Nat) (wt:List di) (par ty:List Int) (ar:List (List bD)) (rep d:Nat->Nat),
  cnt n rep<=c->wt.length<=k->wt.length+cnt n rep *F<=500000000->JI T (AO F n) sb U n W wt par ty ar rep d->
  (∃q z w D d',ue wt o h.Types h.fO par ty ar=some (true,q,z,w)/\JI T (AO F n) sb U n W [] q z w D d')\/
  ((∃q z w,ue wt o h.Types h.fO par ty ar=some (false,q,z,w))/\∀C m,NF C->NP sb U n W C m->False):=by
 intro c;induction c using Nat.strongRecOn with
 |ind c ihc=>
 intro k;induction k with
 |zero=>intro wt par ty ar rep d hc hk hb J;have e:wt=[]:=qa.1 af;subst e;exact .inl ⟨par,ty,ar,rep,d,J7 (by rw[cond_neg (by rfl)]),J⟩
 |succ k ihk=>
  intro wt par ty ar rep d hc hk hb J;rcases List.eq_nil_or_concat wt with rfl|⟨K,p,rfl⟩
  .exact .inl ⟨par,ty,ar,rep,d,J7 (by rw[cond_neg (by rfl)]),J⟩
  .rw[List.concat_eq_append] at *;have hl:(K++[p]).length=K.length+1:=ah;rw[hl] at hk hb;obtain⟨⟨p1,p2⟩,p3,p4⟩:=J.wo p ah;obtain⟨B,hx0⟩:=iZ p1;obtain⟨x1,hx1⟩:=iZ p3;have hx0n:B<n:=af;have hx1n:x1<n:=af;have r0:p.a0.toNat=B:=af;have r1:p.a1.toNat=x1:=af;obtain⟨pa,f1,P1⟩:=TA (TL:=h.Types) (FL:=h.fO) (ty:=ty) (ar:=ar) hx0n J.pi;obtain⟨P,f2,P2⟩:=TA (TL:=h.Types) (FL:=h.fO) (ty:=ty) (ar:=ar) hx1n P1;have J2:=J.nZ P2;have hgN:∀{R:Type} (k:di->Option R),fm (K++[p]) K.length k=k p:=λk=>iA ah k
   have step:∀(r:Bool×List Int×List Int×List (List bD)),(bif(((rep B:Nat):Int) !=((rep x1:Nat):Int)) then(
     zT (f486 ((rep B:Nat):Int) ((rep x1:Nat):Int) h.Types h.fO K P ty ar) λXa w218 S V W9=>bif(!Xa) then some (false,S,V,W9) else ue w218 o h.Types h.fO S V W9)
     else ue K o h.Types h.fO P ty ar)=some r->ue (K++[p]) o h.Types h.fO par ty ar=some r:=by
    intro r hr;refine J7 ?_;rw[hl,cond_pos (by rw[bG];omega),D7 af,yc af,bf,hgN,bJ ⟨af,af⟩,hx0,f1,iy,hx1,f2,iy,List.take_left' rfl];exact hr
   by_cases N:rep B=rep x1
   .have J3:=J2.skip (by rw[r0,r1];exact N);rcases ihk K P ty ar rep d hc af af J3 with⟨q,z,w,D,d',g1,g2⟩|⟨⟨q,z,w,g1⟩,g2⟩
    .exact .inl ⟨q,z,w,D,d',step _ (by rw[cond_neg (by rw[N];simp)];exact g1),g2⟩
    .exact .inr ⟨⟨q,z,w,step _ (by rw[cond_neg (by rw[N];simp)];exact g1)⟩,g2⟩
   .have ha:rep p.a0.toNat=rep B:=by rw[r0]
    have O:rep p.a1.toNat=rep x1:=by rw[r1]
    obtain⟨L,I,Wp,hrb⟩:=J2.rn ha O;have hal:rep B<ar.length:=by rw[J.la];exact L
    have QO:rep x1<ar.length:=by rw[J.la];exact I
    have Vj:rep B<ty.length:=by rw[J.lt];exact L
    have hbt:rep x1<ty.length:=by rw[J.lt];exact I
    have hbp:rep x1<P.length:=by rw[P2.len];exact I
    have ML:(((rep B:Nat):Int) !=((rep x1:Nat):Int))=true:=by rw[p8];omega
    have ta:=J.tr _ L;have tb:=J.tr _ I;rcases H.mt _ _ ta.1 ta.2 tb.1 tb.2 with⟨t,m1,m2,m3,m4,m5⟩|⟨t,m1,m2,m3⟩
    .have la:=(J.ao _ L).len;have lb:=(J.ao _ I).len;have M:=Ad _ (ar.getD (rep B) []) (ar.getD (rep x1) []) (aJ _);have J3:=J2.merge ha O N (λl hl c hc=>(hl.ok c hc).2) (λh1 h2=>H.to.trans h1 h2) M ((J.ao _ L).mg (J.ao _ I)) (H.to.rr m3) m3 m4 m5;have hcm:=Ms J2 ha O N;have f3:f486 ((rep B:Nat):Int) ((rep x1:Nat):Int) h.Types h.fO K P ty ar=some (true,K++(mg (ar.getD (rep B) []) (ar.getD (rep x1) [])).2,P.set (rep x1) ((rep B:Nat):Int),ty.set (rep B) t,ar.set (rep B) (mg (ar.getD (rep B) []) (ar.getD (rep x1) [])).1):=by
      refine e486 ?_;rw[AZ Vj,AZ hbt];rw[show(dr.mk h.Types h.fO)=h from rfl,m1,aI,cond_neg (by rfl),AZ hbp,AZ Vj,WM hal,WM QO,bf,bf,h486 hal _ _ _ _ _ (aJ _) (by simp only[cL];omega) af,er]
     have hmul:(cnt n (λx=>if rep x=rep x1 then rep B else rep x)+1) *F<=cnt n rep *F:=jd F hcm;rw[uO] at hmul;have hml:=M.le;rcases ihc _ (dH (Nat.lt_of_succ_le hcm) hc) (K++(mg (ar.getD (rep B) []) (ar.getD (rep x1) [])).2).length _ _ _ _ _ _ (aJ _) (aJ _) (by rw[cC];omega) J3 with⟨q,z,w,D,d',g1,g2⟩|⟨⟨q,z,w,g1⟩,g2⟩
     .exact .inl ⟨q,z,w,D,d',step _ (by rw[cond_pos ML,f3,od,cond_neg (by rfl)];exact g1),g2⟩
     .exact .inr ⟨⟨q,z,w,step _ (by rw[cond_pos ML,f3,od,cond_neg (by rfl)];exact g1)⟩,g2⟩
    .have f3:f486 ((rep B:Nat):Int) ((rep x1:Nat):Int) h.Types h.fO K P ty ar=some (false,K,P,ty,ar):=by
      refine e486 ?_;rw[AZ Vj,AZ hbt];rw[show(dr.mk h.Types h.fO)=h from rfl,m1,aI,cond_pos (by rfl)]
     exact .inr ⟨⟨_,_,_,step _ (by rw[cond_pos ML,f3,od,cond_pos (by rfl)])⟩,J2.no ha O m3⟩
def TI (n:Nat) (rep:Nat->Nat):cnt n rep<=n:=by grind[cnt]
def Tz {h:dr} {T F n:Nat} {sb:Int->Int->Prop} (H:HM h T sb) {U:Gr} {W:List (Nat×Nat)} (K:F<=1000000) {par ty:List Int} {ar:List (List bD)} {rep d:Nat->Nat} {a b:Nat} (ha:a<n) (hb:b<n) (N:n *F<=400000000) (J:JI T (AO F n) sb U n W [] par ty ar rep d):
  (∃l w q z B,f443 (a:Int) (b:Int) h.Types h.fO par ty ar=some (true,l,w,q)/\JI T (AO F n) sb U n (W++[(a,b)]) [] l w q z B)\/
  ((∃l w q,f443 (a:Int) (b:Int) h.Types h.fO par ty ar=some (false,l,w,q))/\∀C m,NF C->NP sb U n (W++[(a,b)]) C m->False):=by
 have L:cnt n rep *F<=n *F:=jd F (TI n _);rcases h443 H (o:=[]) K _ 1 _ _ _ _ _ d (aJ _) ah (by grind) (J.start ha hb) with⟨l,w,q,z,B,D,I⟩|⟨⟨l,w,q,D⟩,I⟩
 .grind[e443]
 simp_all[e443]
def jj (ty:List Int) (ar:List (List bD)) (rep:Nat->Nat):Gr:=⟨λx=>(ar.getD x []).map λa=>(a.aV,rep a.To.toNat),λx=>ty.getD x 0⟩
def JI.uni {T F n:Nat} {sb:Int->Int->Prop} {U:Gr} {W:List (Nat×Nat)} {par ty:List Int} {ar:List (List bD)} {rep d:Nat->Nat} (J:JI T (AO F n) sb U n W [] par ty ar rep d) (N:Bd U.sc n):SD T F sb U n W (jj ty ar rep) rep:=by
 refine⟨⟨λx l p q=> ?_,λx l=> ?_,λx l p q=> ?_,λx l=>J.tr x l⟩,J.pi.rl,J.pi.rr,λx l p q=> ?_,⟨J.sty,λx l p q=> ?_,λp q=>(J.seq p q).done⟩,λC m K L x l=> ?_⟩
 .obtain⟨a,ha,rfl⟩:=aA.1 q;exact J.pi.rl _ (by have:=((J.ao x l).ok a ha).2;omega)
 .show vK (List.map _ _);unfold vK;rw[fR];exact(J.ao x l).x5
 .obtain⟨a,ha,rfl⟩:=aA.1 q;exact((J.ao x l).ok a ha).1
 .obtain⟨a,ha,rfl⟩:=aA.1 q;exact J.pi.rr _ (by have:=((J.ao x l).ok a ha).2;omega)
 .obtain⟨a,ha,H,I⟩:=J.Vq x l p q;refine aA.2 ⟨a,ha,?_⟩;rw[H,I.done]
 .obtain⟨w,D,_⟩:=J.c4 C m K L;obtain⟨z,B⟩:=D (rep x) (J.pi.rl x l) (J.pi.rr x l);rw[w x l] at z B;refine⟨w x l,z,λp q=> ?_⟩;obtain⟨a,ha,rfl⟩:=aA.1 q;show(a.aV,m (rep a.To.toNat))∈_;rw[w _ (by have:=((J.ao _ (J.pi.rl x l)).ok a ha).2;omega)];exact B a ha
