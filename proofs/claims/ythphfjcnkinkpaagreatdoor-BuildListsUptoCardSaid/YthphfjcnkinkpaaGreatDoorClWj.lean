/- Build. -/
import Derived.Test.YthphfjcnkinkpaaGreatDoorClUh
import Derived.Test.YthphfjcnkinkpaaGreatDoorClXp
set_option linter.all false
open Go.IntKind (wrap)
open Int (toNat)
open List (length replicate)
namespace Go.Proofs.YthphfjcnkinkpaaGreatDoor.cl.pf
open Go Go.AM
def Uz:∀(k:Nat) (w:List Int) (i:Nat) (h:i<w.length),(Ek k w)[i]? =some ⟨0,[⟨w[i],(k+i+1:Nat)⟩]⟩
 |k,f::w,0,h=>by simp[Ek]
 |k,f::w,i+1,h=>by simp only[Ek,rO,vi];rw[Uz (k+1) w i (by simpa using h)];congr 4;omega
def C0 {p:List Int} {f:FSt}:(uG p f).ak.length=p.length+f.ak.length:=by simp[uG,Cx]
def UA {p:List Int} {f:FSt} {i:Nat} (h:i<p.length):(uG p f).ak[i]? =some ⟨0,[⟨p[i],(i+1:Nat)⟩]⟩:=by unfold uG;rw[eU (by rw[Cx];exact h),Uz 0 p i h,eF]
def UB {p:List Int} {f:FSt} {j:Nat}:(uG p f).ak[p.length+j]? =(f.ak[j]?).map (udN p.length):=by unfold uG;rw[fP (by rw[Cx];omega),Cx,nQ,dA]
def vG {p:List Int} {f:FSt} {i:Nat} (h:i<p.length):iN (uG p f) i=[(p[i],i+1)]:=by unfold iN;rw[UA h];simp[UJ]
def YT {p:List Int} {f:FSt} {i:Nat} (h:i<p.length):oB (uG p f) i=0:=by unfold oB;rw[UA h]
def Rs {p:List Int} {f:FSt} {j:Nat}:oB (uG p f) (p.length+j)=oB f j:=by unfold oB;rw[UB];cases f.ak[j]? <;>rfl
def JG (f:FSt):Prop:=∀x∈f.ak,∀a∈x.bV,0<=a.To/\a.To<=1000000
def vH {p:List Int} (hp:p.length<=1000000) {f:FSt} (z:JG f) {j:Nat}:iN (uG p f) (p.length+j)=(iN f j).map λq=>(q.1,p.length+q.2):=by unfold iN;rw[UB];cases G:f.ak[j]? with
 |none=>rfl
 |some x=>
  show UJ (udN p.length x)=(UJ x).map _;unfold UJ udN;rw[eG,eG];refine gP λa w=> ?_
  obtain⟨I,K⟩:=z x (aV G) a w;simp only[Function.comp];rw[show wrap .i64 (a.To+(p.length:Int))=a.To+(p.length:Int) from Ry af af];congr 1;omega
def Oc {sc sc':Nat->List (Int×Nat)} {n:Nat} {L:List Nat} (w:∀y∈L,y<n) (G:∀y,sc' (n+y)=(sc y).map λq=>(q.1,n+q.2)):∀(k x:Nat) (o:List Nat),nq sc' k (n+x) (L++o.map (n+ ·))=L++(nq sc k x o).map (n+ ·)
 |0,x,o=>rfl
 |k+1,x,o=>by
  have z:n+x∈L++o.map (n+ ·)↔x∈o:=by
   rw[bu];constructor
   .rintro (h|h)
    .have:=w _ h;omega
    .obtain⟨y,K,e⟩:=aD.1 h
     have:y=x:=af
     exact this▸K
   .exact λh=> .inr (lP h)
  unfold nq;by_cases h:x∈o
  .rw[aB h,aB (z.2 h)]
  .rw[az h,az (λI=>h (z.1 I)),G x];have key:∀(l:List (Int×Nat)) (o:List Nat),(l.map λq=>(q.1,n+q.2)).foldl (λo p=>nq sc' k p.2 o) (L++o.map (n+ ·))=L++(l.foldl (λo p=>nq sc k p.2 o) o).map (n+ ·):=by
    intro l;induction l with
    |nil=>intro o;rfl
    |cons q l N=>intro o;simp only[bH,gb];rw[Oc w G k q.2 o];exact N _
   have:=key (sc x) (o++[x]);rw[cE,List.map_singleton,<-ee] at this;exact this
def und_vis {T F:Nat} {p:List Int} (hp:p.length<=1000000) {f:FSt} (w:Can T F f) (I:JG f):∀(j i:Nat),p.length=i+j->nq (iN (uG p f)) (f.ak.length+1+j) i (List.range i)=List.range (p.length+f.ak.length):=by intro j;induction j with
 |zero=>intro i z;have e:i=p.length:=af;have:=Oc (sc:=iN f) (sc':=iN (uG p f)) (n:=p.length) (L:=List.range p.length) (λy K=>gQ.1 K) (λy=>vH hp I) (f.ak.length+1) 0 [];rw[ey,eo] at this;rw[e,lV];refine Eq.trans this ?_;have G:nq (iN f) (f.ak.length+1) 0 []=List.range f.ak.length:=w.ord;rw[G,<-wY]
 |succ j L=>intro i z;rw[show f.ak.length+1+(j+1)=(f.ak.length+1+j)+1 from rfl,nq,az ai,vG af,<-kE];exact L (i+1) af
def und_go {T F:Nat} (hT:0<T) {p:List Int} (hp:p.length<=1000000) (hπ:∀g∈p,0<=g/\g<(F:Int)) {f:FSt} (N:Can T F f) (L:JG f):GO T F (jj (uG p f)) (uG p f).ak.length:=by
 have hn:=N.ne;have hg:=N.go;rw[C0];have O:∀i,i<p.length+f.ak.length->i<p.length\/∃j,j<f.ak.length/\i=p.length+j:=λi z=>by
  by_cases h:i<p.length
  .exact .inl h
  .exact .inr ⟨i-p.length,by omega,af⟩
 refine⟨λi z q hq=> ?_,λi z=> ?_,λi z q hq=> ?_,λi z=> ?_⟩<;>rcases O i z with h|⟨j,G,rfl⟩
 .have hq:q∈iN (uG p f) i:=hq;rw[vG h] at hq;simp at hq;subst hq;show i+1<_;omega
 .have hq:q∈iN (uG p f) (p.length+j):=hq;rw[vH hp L] at hq;obtain⟨I,w,rfl⟩:=aD.1 hq;have:=hg.bd j G I w;show p.length+I.2<_;omega
 .show wV (iN _ i);rw[vG h];exact rU _ _
 .show wV (iN _ _);rw[vH hp L];exact List.Pairwise.map _ (λa b K=>K) (hg.vP j G)
 .have hq:q∈iN (uG p f) i:=hq;rw[vG h] at hq;simp at hq;subst hq;exact hπ _ (bU h)
 .have hq:q∈iN (uG p f) (p.length+j):=hq;rw[vH hp L] at hq;obtain⟨I,w,rfl⟩:=aD.1 hq;exact hg.ft j G I w
 .show 0<=oB _ i/\oB _ i<_;rw[YT h];omega
 .show 0<=oB _ _/\oB _ _<_;rw[Rs];exact hg.tp j G
def Rr {T F:Nat} (hT:0<T) {p:List Int} (hp:p.length<=1000000) (hπ:∀g∈p,0<=g/\g<(F:Int)) {f:FSt} (I:Can T F f) (K:JG f):Can T F (uG p f):=by
 have hn:=I.ne;refine DR (by rw[C0];omega) (und_go hT hp hπ I K) (λx w a z=> ?_) ?_
 .unfold uG at w;rcases bu.1 w with w|w
  .have key:∀(k:Nat) (G:List Int),∀x∈Ek k G,∀a∈x.bV,0<=a.To:=by
    intro k G;induction G generalizing k with
    |nil=>intro x w;cases w
    |cons g G O=>
     intro x w a z;rcases aN.1 w with rfl|w
     .simp at z;subst z;show(0:Int)<=((k+1:Nat):Int);omega
     .exact O _ x w a z
   exact key 0 p x w a z
  .obtain⟨y,N,rfl⟩:=aD.1 w;obtain⟨b,L,rfl⟩:=aD.1 z;obtain⟨P,Q⟩:=K y N b L;show 0<=wrap .i64 (b.To+(p.length:Int));rw[show wrap .i64 (b.To+(p.length:Int))=b.To+(p.length:Int) from Ry af af];omega
 .rw[C0];have:=und_vis hp I K p.length 0 af;rw[show f.ak.length+1+p.length=p.length+f.ak.length+1 from by omega] at this;exact this
end Go.Proofs.YthphfjcnkinkpaaGreatDoor.cl.pf
namespace Go.Proofs.YthphfjcnkinkpaaGreatDoor.cl.pf
open Go Go.AM
def YS {T F:Nat} {f:FSt} (z:Can T F f) (hn:f.ak.length<=1000000) (hF:F<=1000000):JG f:=λx G a w=>(z.small hn hF x G).2 a w
section
variable {h:aJ} {T F:Nat} {sb:Int->Int->Prop} (H:HM h T sb) {A:FSt} (hA:Can T F A) {g:FSt} (hg:Can T F g) (hT:0<T) (hF:F<=300) {p:List Int} (hπ:∀x∈p,0<=x/\x<(F:Int)) (hn:A.ak.length+(p.length+g.ak.length)<=1000000)
include H hA hg hT hF hπ hn
theorem at_same:(∃f,f542 h A p g=some (f,true)/\f536 h A p g=some (f,true)/\RL T F sb A (uG p g) f)\/
  (f542 h A p g=some (⟨[]⟩,false)/\f536 h A p g=some (⟨[]⟩,false)/\∀C,Can T F C->Le sb A C->Le sb (uG p g) C->False):=by
 have I:=YS hg af af;have K:=Rr hT af hπ hg I;have L:∀x∈g.ak,x.bV.length<=1000000:=λx R=>(hg.small af af x R).1
 have S:=c426g (p:=p) (f:=g) af af L;have U:=c430g (p:=p) (f:=g) af af L;have N:A.ak.length+(uG p g).ak.length<=1000000:=by rw[C0];exact hn
 have O:∀f b,f433 h A (uG p g)=some (f,b)->f542 h A p g=some (f,b):=λf b e=>e542 (by rw[S,aj,e];rfl)
 have P:∀f b,f440 h A (uG p g)=some (f,b)->f536 h A p g=some (f,b):=λf b e=>e536 (by rw[U,aj,e];rfl)
 rcases c433 H hA K af N with⟨f,e1,w⟩|⟨e1,w⟩<;>rcases c440 H hA K hF N with⟨Q,G,z⟩|⟨G,z⟩
 .have:=RL.uniq H.to hA K w z;subst this;exact .inl ⟨f,O _ _ e1,P _ _ G,w⟩
 .exact(z f w.can w.l w.r).elim
 .exact(w Q z.can z.l z.r).elim
 .exact .inr ⟨O _ _ e1,P _ _ G,w⟩
end
end Go.Proofs.YthphfjcnkinkpaaGreatDoor.cl.pf
namespace Go.Proofs.YthphfjcnkinkpaaGreatDoor.cl.pf
open Go Go.AM
structure Eqt (T F:Nat) (sb:Int->Int->Prop) (A:FSt) (p q:List Int) (f:FSt):Prop where
 can:Can T F f
 l:Le sb A f
 at_:∃k,oN f p=some k/\oN f q=some k
 least:∀C,Can T F C->Le sb A C->(∃k,oN C p=some k/\oN C q=some k)->Le sb f C
def Eqt.uniq {T F:Nat} {sb:Int->Int->Prop} (hT:TO T sb) {A:FSt} {p q:List Int} {f g:FSt} (w:Eqt T F sb A p q f) (z:Eqt T F sb A p q g):f=g:=
 Le.anti hT w.can z.can (w.least g z.can z.l z.at_) (z.least f w.can w.l w.at_)
structure Emb (T F:Nat) (l:List Node) (s:Nat) (B:FSt):Prop where
 can:Can T F B
 get:∀i,(hi:i<B.ak.length)->l[i+s]? =some (sZ s B.ak[i])
section
variable {T F:Nat} {l:List Node} {s:Nat} {B:FSt} (h:Emb T F l s B)
include h
theorem Emb.lt {i:Nat} (w:i<B.ak.length):i+s<l.length:=(bP.1 (h.get i w)).1
theorem Emb.sc {i:Nat} (w:i<B.ak.length):(lG l).sc (i+s)=(iN B i).map λp=>(p.1,p.2+s):=by rw[Nz (h.lt w),(bP.1 (h.get i w)).2,wM w];exact Uk (h.can.ao (bU w))
theorem Emb.ty {i:Nat} (w:i<B.ak.length):(lG l).ty (i+s)=oB B i:=by rw[Tm (h.lt w),(bP.1 (h.get i w)).2,uF w];rfl
theorem Emb.sol {sb:Int->Int->Prop} {C:FSt} {G m:Nat->Nat} (z:∀i,i<B.ak.length->m (i+s)=G i) (I:tK sb (jj B) 0 (jj C) 0 G) {i:Nat} (w:i<B.ak.length):
  sb ((lG l).ty (i+s)) ((jj C).ty (m (i+s)))/\∀p∈(lG l).sc (i+s),(p.1,m p.2)∈(jj C).sc (m (i+s)):=by
 have:=I.2 i (h.can.Eo w);rw[z i w,h.ty w,h.sc w];refine⟨this.1,λp hp=> ?_⟩;obtain⟨q,hq,rfl⟩:=aD.1 hp;simp only;rw[z q.2 (h.can.bd i w q hq)];exact this.2 q hq
theorem Emb.part {sb:Int->Int->Prop} (hT:TO T sb) (I:0<l.length) {W:List (Nat×Nat)} {G:Gr} {w:Nat->Nat} (K:Y6 T F sb (lG l) l.length W G w) (L:w s=w 0):
  tK sb (jj B) 0 (jj (kj G l.length (w 0))) 0 (λi=>(iy G l.length (w 0)).idxOf (w (i+s))):=by
 refine K.part hT I (A:=jj B) (s:=0) (e:=λi=>i+s) (λi z=> ?_) (by simpa using L);have z:=h.can.IL z;exact⟨h.lt z,h.ty z,h.sc z⟩
end
def uE (A B D:FSt):List Node:=A.ak.map (sZ 0)++B.ak.map (sZ A.ak.length)++D.ak.map (sZ (A.ak.length+B.ak.length))
def aes {T F:Nat} {sb:Int->Int->Prop} {U:Gr} {n:Nat} {W:List (Nat×Nat)} {G:Gr} {z:Nat->Nat} (w:Y6 T F sb U n W G z) (I:0<n):(kj G n (z 0)).ak.length<=n:=by rw[Gt];have:=sn w.go.bd (w.lt 0 I);exact wC this.nd this.lt
section
variable {T F:Nat} {A B D:FSt} (hA:Can T F A) (hB:Can T F B) (hD:Can T F D)
theorem Rq:(uE A B D).length=A.ak.length+B.ak.length+D.ak.length:=by simp[uE];omega
include hA in
theorem aen:Emb T F (uE A B D) 0 A:=⟨hA,λi w=>by
 unfold uE
 rw[ee,eU (by simpa using w),dA,lV,aM w];rfl⟩
include hB in
theorem aeo:Emb T F (uE A B D) A.ak.length B:=⟨hB,λi w=>by
 unfold uE
 rw[ee,fP ai,bf,lK,eU (by simpa using w),dA,aM w];rfl⟩
include hD in
theorem aep:Emb T F (uE A B D) (A.ak.length+B.ak.length) D:=⟨hD,λi w=>by
 unfold uE
 rw[fP ai,bQ,bf,bf,lK,dA,aM w];rfl⟩
theorem N7 {x:Nat} (z:x<(uE A B D).length):(∃i,i<A.ak.length/\x=i+0)\/(∃i,i<B.ak.length/\x=i+A.ak.length)\/∃i,i<D.ak.length/\x=i+(A.ak.length+B.ak.length):=by
 rw[Rq] at z;by_cases w:x<A.ak.length
 .exact .inl ⟨x,w,rfl⟩
 .by_cases G:x<A.ak.length+B.ak.length
  .exact .inr (.inl ⟨x-A.ak.length,by omega,af⟩)
  .exact .inr (.inr ⟨x-(A.ak.length+B.ak.length),by omega,af⟩)
include hA hB hD
theorem tri_sol {sb:Int->Int->Prop} {C:FSt} {L G I:Nat->Nat} (R:tK sb (jj A) 0 (jj C) 0 L) (S:tK sb (jj B) 0 (jj C) 0 G) (U:tK sb (jj D) 0 (jj C) 0 I) {i j:Nat} (w:i<B.ak.length) (hj:j<D.ak.length) (e:G i=I j):
  ∃m,m 0=0/\UG sb (lG (uE A B D)) (uE A B D).length ([(0,A.ak.length)]++[(A.ak.length,A.ak.length+B.ak.length)]++[(A.ak.length+i,A.ak.length+B.ak.length+j)]) (jj C) m:=by
 have a0:=hA.ne;have b0:=hB.ne;have d0:=hD.ne;generalize K:(λx=>if x<A.ak.length then L x else if x<A.ak.length+B.ak.length then G (x-A.ak.length) else I (x-(A.ak.length+B.ak.length)))=m;have V:∀i,i<A.ak.length->m (i+0)=L i:=λi w=>by rw[<-K];simp only[lV];rw[aB w]
 have N:∀i,i<B.ak.length->m (i+A.ak.length)=G i:=λi w=>by rw[<-K];simp only;rw[az af,aB af,lK]
 have O:∀i,i<D.ak.length->m (i+(A.ak.length+B.ak.length))=I i:=λi w=>by rw[<-K];simp only;rw[az af,az af,lK]
 have P:=V 0 a0;have Q:=N 0 b0;have r3:=O 0 d0;rw[R.1] at P;rw[eF,S.1] at Q;rw[eF,U.1] at r3;have key:∀x,x<(uE A B D).length->sb ((lG (uE A B D)).ty x) ((jj C).ty (m x))/\∀p∈(lG (uE A B D)).sc x,(p.1,m p.2)∈(jj C).sc (m x):=λx z=>by
  rcases N7 z with⟨i,w,rfl⟩|⟨i,w,rfl⟩|⟨i,w,rfl⟩
  .exact(aen hA).sol V R w
  .exact(aeo hB).sol N S w
  .exact(aep hD).sol O U w
 refine⟨m,P,λx z=>(key x z).1,λx z=>(key x z).2,λp hp=> ?_⟩;simp only[gF,dK,aN,nC,pQ] at hp;rcases hp with rfl|rfl|rfl
 .rw[Q];exact P
 .show m A.ak.length=m (A.ak.length+B.ak.length);rw[Q,r3]
 .show m (A.ak.length+i)=m (A.ak.length+B.ak.length+j);have e1:=N i w;have e2:=O j hj;rw[jS A.ak.length i,jS (A.ak.length+B.ak.length) j,e1,e2,e]
end
section
variable {T F:Nat} {sb:Int->Int->Prop} (hT:TO T sb) {A:FSt} (hA:Can T F A) {p q:List Int} (hp:∀f∈p,0<=f/\f<(F:Int)) (hq:∀f∈q,0<=f/\f<(F:Int)) (uL:0<T)
include hT hA hp hq uL
abbrev eqnW (A:FSt) (p q:List Int):List (Nat×Nat):=[(0,A.ak.length)]++[(A.ak.length,A.ak.length+(p.length+1))]++[(A.ak.length+p.length,A.ak.length+(p.length+1)+q.length)]
theorem Uw {C:FSt} (w:Can T F C) (G:Le sb A C) (R:∃k,oN C p=some k/\oN C q=some k):
  ∃m,m 0=0/\UG sb (lG (uE A (sR p 0) (sR q 0))) (uE A (sR p 0) (sR q 0)).length (eqnW A p q) (jj C) m:=by
 obtain⟨V,G⟩:=G;obtain⟨k,I,K⟩:=R;have O:=vt (T:=T) uL hp ⟨jK 0,af⟩;have P:=vt (T:=T) uL hq ⟨jK 0,af⟩;have S:=r7 p 0;have U:=r7 q 0;have top:∀k,oN C p=some k\/oN C q=some k->sb 0 (oB C k):=λk z=>by
  have:kO (iN C) 0 k:=by rcases z with z|z<;>exact xm (λi _=>w.vP i) _ 0 _ .root z
  have:=w.go.tp _ (w.IL this);exact hT.top this.1 this.2
 obtain⟨mp,Q⟩:=(OE hT hp ⟨jK 0,af⟩ w).2 ⟨k,I,top k (.inl I)⟩;obtain⟨mq,eq⟩:=(OE hT hq ⟨jK 0,af⟩ w).2 ⟨k,K,top k (.inr K)⟩;have L:=A6 O w Q (π:=p) (k:=p.length) (by have:=J8 (π:=p) (t:=0) p.length (aR _);rwa[gp] at this);have N:=A6 P w eq (π:=q) (k:=q.length) (by have:=J8 (π:=q) (t:=0) q.length (aR _);rwa[gp] at this);rw[I] at L;rw[K] at N;have:=tri_sol hA O P G Q eq (i:=p.length) (j:=q.length) af af (fe (L.symm.trans N));rw[S] at this;exact this
theorem tri_eqt {G:Gr} {z:Nat->Nat} (w:Y6 T F sb (lG (uE A (sR p 0) (sR q 0))) (uE A (sR p 0) (sR q 0)).length (eqnW A p q) G z):
  Eqt T F sb A p q (kj G (uE A (sR p 0) (sR q 0)).length (z 0)):=by
 have L:=vt (T:=T) uL hp ⟨jK 0,af⟩;have N:=vt (T:=T) uL hq ⟨jK 0,af⟩;have P:=r7 p 0;have lq:=r7 q 0;have I:0<(uE A (sR p 0) (sR q 0)).length:=by rw[Rq];have:=hA.ne;omega
 have Q:z 0=z A.ak.length:=w.sol.eq (0,A.ak.length) ai;have q1:z A.ak.length=z (A.ak.length+(p.length+1)):=w.sol.eq (A.ak.length,A.ak.length+(p.length+1)) ai;have q2:z (A.ak.length+p.length)=z (A.ak.length+(p.length+1)+q.length):=w.sol.eq (A.ak.length+p.length,A.ak.length+(p.length+1)+q.length) ai;have K:=w.can I;have m1:=(aen hA).part hT I w (s:=0) rfl;have m2:=(aeo L).part hT I w Q.symm;have m3:=(aep (D:=sR q 0) N).part hT I w (by rw[P,<-q1,Q]);have R:=A6 L K m2 (π:=p) (k:=p.length) (by have:=J8 (π:=p) (t:=0) p.length (aR _);rwa[gp] at this);have S:=A6 N K m3 (π:=q) (k:=q.length) (by have:=J8 (π:=q) (t:=0) q.length (aR _);rwa[gp] at this);refine⟨K,⟨_,m1⟩,⟨_,R,?_⟩,λC O V h2=> ?_⟩
 .rw[S,P,jS q.length,jS p.length A.ak.length,q2]
 .obtain⟨m,U,hs⟩:=Uw hT hA hp hq uL O V h2;exact w.le hT I O hs U
end
section
variable {h:aJ} {T F:Nat} {sb:Int->Int->Prop} (H:HM h T sb) {A:FSt} (hA:Can T F A) {p q:List Int} (hp:∀f∈p,0<=f/\f<(F:Int)) (hq:∀f∈q,0<=f/\f<(F:Int)) (uL:0<T) (hF:F<=300) (hn:A.ak.length+(p.length+1)+(q.length+1)<=1000000)
include H hA hp hq uL hF hn
theorem c438g:(∃f,f438 h A p q=some (f,true)/\Eqt T F sb A p q f/\f.ak.length<=A.ak.length+(p.length+1)+(q.length+1))\/
  (f438 h A p q=some (⟨[]⟩,false)/\∀C,Can T F C->Le sb A C->(∃k,oN C p=some k/\oN C q=some k)->False):=by
 have cp:=vt (T:=T) uL hp ⟨jK 0,af⟩;have cq:=vt (T:=T) uL hq ⟨jK 0,af⟩;have lp:=r7 p 0;have lq:=r7 q 0;have hl:=Rq (A:=A) (B:=sR p 0) (D:=sR q 0);have ha0:=hA.ne;have a1:f442 A.ak h.Types h.bD [] [] []=some ((),ids 0 A.ak.length,A.ak.map (·.di),A.ak.map λx=>uD 0 x.bV):=by rw[aa7 (fr:=0) rfl rfl rfl af (hA.small af af)];simp
 have a2:f442 (sR p 0).ak h.Types h.bD (ids 0 A.ak.length) (A.ak.map (·.di)) (A.ak.map λx=>uD 0 x.bV)=
   some ((),ids 0 (A.ak.length+(p.length+1)),A.ak.map (·.di)++(sR p 0).ak.map (·.di),(A.ak.map λx=>uD 0 x.bV)++(sR p 0).ak.map λx=>uD A.ak.length x.bV):=by
  rw[aa7 (fr:=A.ak.length) (qE _ _) ai ai af (cp.small af af),lp];have:=I5 0 A.ak.length (p.length+1);rw[eF] at this;rw[this]
 have a3:f442 (sR q 0).ak h.Types h.bD (ids 0 (A.ak.length+(p.length+1))) (A.ak.map (·.di)++(sR p 0).ak.map (·.di)) ((A.ak.map λx=>uD 0 x.bV)++(sR p 0).ak.map λx=>uD A.ak.length x.bV)=
   some ((),ids 0 (uE A (sR p 0) (sR q 0)).length,(uE A (sR p 0) (sR q 0)).map (·.di),(uE A (sR p 0) (sR q 0)).map (·.bV)):=by
  rw[aa7 (fr:=A.ak.length+(p.length+1)) (qE _ _) (by simp[lp]) (by simp[lp]) af (cq.small af af),lq];have:=I5 0 (A.ak.length+(p.length+1)) (q.length+1);rw[eF] at this;rw[this,hl,lp,lq];unfold uE;simp[sZ,mX,lp]
 generalize Q:uE A (sR p 0) (sR q 0)=l at *;have J0:JI T (AO F l.length) sb (lG l) l.length [] [] (ids 0 l.length) (l.map (·.di)) (l.map (·.bV)) id (λ_=>0):=by
  have key:∀x,(G:x<l.length)->(0<=l[x].di/\l[x].di<(T:Int))/\AO F l.length l[x].bV:=by
   have g:∀(s:Nat) (B:FSt),Emb T F l s B->(z:s+B.ak.length<=l.length)->∀i,(L:i<B.ak.length)->(0<=(l[i+s]'(by omega)).di/\(l[i+s]'(by omega)).di<(T:Int))/\AO F l.length (l[i+s]'(by omega)).bV:=λs B E z i L=>by rw[(bP.1 (E.get i L)).2];show(0<=(B.ak[i]).di/\(B.ak[i]).di<(T:Int))/\AO F l.length (uD s (B.ak[i]).bV);exact⟨E.can.tyr (bU L),(E.can.ao (bU L)).sh af⟩
   intro x G;have U:=G;rw[<-Q] at U;rcases N7 U with⟨i,L,e⟩|⟨i,L,rfl⟩|⟨i,L,rfl⟩
   .have e:x=i:=e;subst e;exact g 0 A (Q▸aen hA) af _ L
   .exact g _ _ (Q▸aeo cp) af i L
   .exact g _ _ (Q▸aep cq) af i L
  refine JI.init H.to.refl rfl ai ai (λx G=> ?_) (λx G=> ?_) (λx _=>rfl) (λx _=>rfl)
  .rw[kL G];exact(key x G).1
  .rw[kL G];exact(key x G).2
 have R:l.length *F<=400000000:=by have:=nP (by omega:l.length<=1000000) hF;omega
 have hbd:Bd (lG l).sc l.length:=λx G r S=>by rw[Nz G] at S;obtain⟨a,ha,rfl⟩:=aD.1 S;have:=J0.ao x G;rw[kL G] at this;have:=(this.ok a ha).2;show a.To.toNat<_;omega
 have w:∀C,Can T F C->Le sb A C->(∃k,oN C p=some k/\oN C q=some k)->∃m,UG sb (lG l) l.length (eqnW A p q) (jj C) m:=λC K O P=>by obtain⟨m,_,z⟩:=Uw H.to hA hp hq uL K O P;rw[Q] at z;exact⟨m,z⟩
 have e0:(0:Int)=((0:Nat):Int):=rfl;have w1:((ids 0 A.ak.length).length:Int)=(A.ak.length:Int):=by rw[qE]
 have w2:((ids 0 (A.ak.length+(p.length+1))).length:Int)=((A.ak.length+(p.length+1):Nat):Int):=by rw[qE]
 have v1:wrap .i64 ((A.ak.length:Int)+(p.length:Int))=((A.ak.length+p.length:Nat):Int):=by rw[gi af af];omega
 have v2:wrap .i64 (((A.ak.length+(p.length+1):Nat):Int)+(q.length:Int))=((A.ak.length+(p.length+1)+q.length:Nat):Int):=by rw[gi af af];omega
 rcases c443 H af (by omega:0<l.length) (by omega:A.ak.length<l.length) R J0 with⟨p1,t1,r1,rep1,d1,V,J1⟩|⟨⟨p1,t1,r1,V⟩,I⟩
 .rcases c443 H af (by omega:A.ak.length<l.length) (by omega:A.ak.length+(p.length+1)<l.length) R J1 with⟨p2,t2,r2,rep2,d2,j2,J2⟩|⟨⟨p2,t2,r2,j2⟩,I⟩
  .rcases c443 H af (by omega:A.ak.length+p.length<l.length) (by omega:A.ak.length+(p.length+1)+q.length<l.length) R J2 with⟨p3,t3,r3,rep3,d3,j3,N⟩|⟨⟨p3,t3,r3,j3⟩,I⟩
   .obtain⟨p4,g⟩:=c444 (TL:=h.Types) (FL:=h.bD) (d:=d3) N.la N.lt N.ao N.pi.rl N.pi.rr af af (by omega:0<l.length) N.pi;have hU:=N.uni hbd;have hz:=aes hU af;have he:=tri_eqt H.to hA hp hq uL (by rw[Q];exact hU);rw[Q] at he;refine .inl ⟨_,e438 ?_,he,af⟩;rw[e425 rfl,aj,R3 af,aj,aj,R3 af,aj,a1,cF,a2,cF,a3,cF,w1,w2,v1,v2,e0,V,cF,cond_neg (by rfl),j2,cF,cond_neg (by rfl),j3,cF,cond_neg (by rfl),g,cF]
   .refine .inr ⟨e438 ?_,λC K O P=> ?_⟩
    .rw[e425 rfl,aj,R3 af,aj,aj,R3 af,aj,a1,cF,a2,cF,a3,cF,w1,w2,v1,v2,e0,V,cF,cond_neg (by rfl),j2,cF,cond_neg (by rfl),j3,cF,cond_pos (by rfl)]
    .obtain⟨m,z⟩:=w C K O P;exact I _ m K.Mk z
  .refine .inr ⟨e438 ?_,λC K O P=> ?_⟩
   .rw[e425 rfl,aj,R3 af,aj,aj,R3 af,aj,a1,cF,a2,cF,a3,cF,w1,w2,v1,v2,e0,V,cF,cond_neg (by rfl),j2,cF,cond_pos (by rfl)]
   .obtain⟨m,z⟩:=w C K O P;exact I _ m K.Mk ⟨z.ty,z.ar,λr S=>z.eq r (cM _ S)⟩
 .refine .inr ⟨e438 ?_,λC K O P=> ?_⟩
  .rw[e425 rfl,aj,R3 af,aj,aj,R3 af,aj,a1,cF,a2,cF,a3,cF,w1,w2,v1,v2,e0,V,cF,cond_pos (by rfl)]
  .obtain⟨m,z⟩:=w C K O P;exact I _ m K.Mk ⟨z.ty,z.ar,λr S=>z.eq r (cM _ (cM _ S))⟩
end
end Go.Proofs.YthphfjcnkinkpaaGreatDoor.cl.pf
namespace Go.Proofs.YthphfjcnkinkpaaGreatDoor.cl.pf
open Go Go.AM
def XC:List Int->Nat->List (List b9)->Nat×List (List b9)
 |[],n,w=>(n,w)
 |f::z,n,w=>match fa (w.getD n []) f with
  |some a=>XC z a.To.toNat w
  |none=>XC z w.length (w.set n (w.getD n []++[⟨f,(w.length:Nat)⟩])++[[]])
def zip0:∀{w:List Node} {G:List (List b9)},w.length=G.length->(∀x∈w,x.di=0)->List.zipWith Hf w G=G.map (Node.mk 0)
 |[],[],_,_=>rfl
 |x::w,y::G,I,h=>by rw[List.zipWith_cons_cons,bH,zip0 (by simpa using I) λz K=>h z (dz _ K)];show(⟨x.di,y⟩:Node)::_=_;rw[h x ai]
section
variable {F:Nat} {A B:List Int} (hA:∀f∈A,0<=f/\f<(F:Int)) (hB:∀f∈B,0<=f/\f<(F:Int)) (hAl:A.length<=1000) (hBl:B.length<=1000) (hF:F<=1000)
include hB hAl hBl hF in
theorem h553 {o4:FSt}:∀(k i n:Nat) (z:List (List b9)) (w:List Node),B.length=i+k->SI F A B n i z->w.length=z.length->(∀x∈w,x.di=0)->
  AP B (n:Int) (i:Int) o4 w (z.map some)=some ((((XC (B.drop i) n z).1:Nat):Int),(XC (B.drop i) n z).2.map (Node.mk 0))/\SI F A B (XC (B.drop i) n z).1 B.length (XC (B.drop i) n z).2:=by
 intro k;induction k with
 |zero=>intro i n z w hi I O R;have e:i=B.length:=af;subst e;rw[rH];refine⟨ado ?_,I⟩;rw[cond_neg (by rw[aS];omega)];show yD Hf _ _ _=_;rw[qc O,zip0 O R];rfl
 |succ k ih=>
  intro i n z w hi I O R;have K:=I.nlt;have hIle:=I.le;have G:i<B.length:=af;have hlen:=(I.aw n K).len;have S:(z.map (Node.mk 0))[n]? =some ⟨0,z.getD n []⟩:=by rw[dA,aM K,bw,aM K];rfl
  rw[iW G]
  have pre:∀r,(bif(!(fr (z.getD n []) B[i]).2) then(
    check ((length w+length [(Node.mk 0 ([]:List b9))]) *32<=140737488355328/\length w+length [(Node.mk 0 ([]:List b9))]<=4611686018427387904) (
    Bm (z.map some++[some []]) λU=>
    check (0<=(n:Int)/\toNat (n:Int)<length (w++[(Node.mk 0 ([]:List b9))])) (
    Wv U (toNat (n:Int)) λL P=>
    bq B (i:Int) λN=>
    check ((length L+length [(b9.mk N ((length w:Int)))]) *16<=140737488355328/\length L+length [(b9.mk N ((length w:Int)))]<=4611686018427387904) (
    check (0<=(n:Int)/\toNat (n:Int)<length (w++[(Node.mk 0 ([]:List b9))])) (
    check ((toNat (n:Int))<length P) (Bm (List.set P (toNat (n:Int)) (some (L++[(b9.mk N ((length w:Int)))]))) λV=>
    AP B ((length w:Int)) ((i+1:Nat):Int) o4 (w++[(Node.mk 0 ([]:List b9))]) V)))))) else AP B (fr (z.getD n []) B[i]).1 ((i+1:Nat):Int) o4 w (z.map some))=some r->AP B (n:Int) (i:Int) o4 w (z.map some)=some r:=λr hr=>by
   refine ado ?_;rw[bM af,cond_pos (by rw[bA];omega),cH G];show yD Hf _ _ _=_;rw[qc O,zip0 O R,c476 S (by show(z.getD n []).length<=_;omega),aj];exact hr
  unfold XC;cases e:fa (z.getD n []) B[i] with
  |some a=>
   obtain⟨h1,h2⟩:=I.go hB G e;obtain⟨g1,g2⟩:=ih (i+1) a.To.toNat z w af h2 O R;refine⟨pre _ ?_,g2⟩;unfold fr;rw[e];simp only[];rw[cond_neg (by rfl)]
   have:((a.To.toNat:Nat):Int)=a.To:=af
   rw[this] at g1;exact g1
  |none=>
   have I2:=I.new hB G e;obtain⟨g1,g2⟩:=ih (i+1) z.length _ (w++[⟨0,[]⟩]) af I2 (by simp[O]) λx Q=>by
    rcases bu.1 Q with Q|Q
    .exact R x Q
    .simp at Q;subst Q;rfl
   refine⟨pre _ ?_,g2⟩;have em:z.map some++[some []]=(z++[[]]).map some:=by rw[cE];rfl
   have e1:(z++[[]]).getD n []=z.getD n []:=Ag K;have e2:((z++[[]]).map some).set n (some (z.getD n []++[(⟨B[i],(z.length:Nat)⟩:b9)]))=(z.set n (z.getD n []++[(⟨B[i],(z.length:Nat)⟩:b9)])++[[]]).map some:=by rw[<-uV,zo _ _ K]
   unfold fr;rw[e];simp only[];rw[cond_pos (by rfl),cC _ af ai af,CN,em,A3 aH,aZ,NQ aH,cH G,e1,cC _ af ai af,bW ⟨af,aH⟩,bW aH,List.set_set,CN,O,e2];exact g1
theorem abd {p:List Int} {i:Nat} (L:i<p.length):(zk (p.take i)).set i [⟨p[i],((i+1:Nat):Int)⟩]++[[]]=zk (p.take (i+1)):=by
 have N:(p.take i).length=i:=by rw[fh];omega
 have O:(p.take (i+1)).length=i+1:=by rw[fh];omega
 have w:(zk (p.take i)).length=i+1:=by simp[zk,N]
 have c2:(zk (p.take (i+1))).length=i+2:=by simp[zk,O]
 apply kK;intro j;have G:∀(k j:Nat),j<k+1->k<=p.length->(zk (p.take k))[j]? =some (if h:j<k then[⟨p.getD j 0,((j+1:Nat):Int)⟩] else[]):=λk j Q R=>by
  have P:(p.take k).length=k:=by rw[fh];omega
  have I:j<(zk (p.take k)).length:=by simp[zk,P];omega
  rw[aM I];congr 1;have e:(zk (p.take k))[j]=(zk (p.take k)).getD j []:=by rw[bw,aM I];rfl
  rw[e];by_cases h:j<k
  .rw[CF af,kC h,List.getElem_take,bw,aM (by omega:j<p.length)];rfl
  .rw[EW af,rW h]
 by_cases K:j<i+1
 .rw[eU (by simp[w];omega),xg,G (i+1) j af af,kC K];by_cases z:i=j
  .subst z;rw[aB rfl,aB af,bw,aM L];rfl
  .rw[az z,G i j af af,kC af]
 .by_cases z:j=i+1
  .subst z;rw[fP (by simp[w]),G (i+1) (i+1) af af,rW af];simp[w]
  .rw[gA (by simp[w];omega),gA af]
theorem grw_ch {p:List Int}:∀(k i:Nat),p.length=i+k->XC (p.drop i) i (zk (p.take i))=(p.length,zk p):=by intro k;induction k with
 |zero=>intro i G;have e:i=p.length:=af;subst e;rw[rH,gp];rfl
 |succ k I=>
  intro i G;have w:i<p.length:=af;have K:(p.take i).length=i:=by rw[fh];omega
  have z:(zk (p.take i)).length=i+1:=by simp[zk,K]
  rw[iW w];unfold XC;have e:(zk (p.take i)).getD i []=[]:=EW af;rw[e];show XC _ _ _=_;rw[z,dK,abd w];exact I (i+1) af
include hA hB hAl hBl hF
theorem abP {n:Nat} {z:List (List b9)} (I:SI F A B n B.length z) {V a:Nat} (R:V=min A.length n) (ha:a=max A.length n) {G:Gr} {K:Nat->Nat} (N:Y6 1 F sb0 (lG (z.map (Node.mk 0))) z.length [(V,a)] G K):
  Shr F A B (kj G z.length (K 0)):=by
 have hIl:=I.len;have P:0<z.length:=af;have hc:=N.can P;have U:∀x,x<z.length->(lG (z.map (Node.mk 0))).sc x=(z.getD x []).map λa=>(a.bB,a.To.toNat):=λx L=>by rw[Nz (by simpa using L),kF,bw,aM L];rfl
 have ZK:∀x,x<z.length->(lG (z.map (Node.mk 0))).ty x=0:=λx L=>by rw[Tm (by simpa using L),kF]
 have q:K A.length=K n:=by
  have:=N.sol.eq (V,a) ai;simp only at this;by_cases h:A.length<=n
  .have e1:V=A.length:=af;have e2:a=n:=af;rw[<-e1,<-e2];exact this
  .have e1:V=n:=af;have e2:a=A.length:=af;rw[<-e1,<-e2];exact this.symm
 have O:∀{Q:List Int} {x y:Nat},x<z.length->kO G.sc (K 0) (K x)->Y5 z x Q y->AZ (jj (kj G z.length (K 0))) ((iy G z.length (K 0)).idxOf (K x)) Q=some ((iy G z.length (K 0)).idxOf (K y)):=by intro Q;induction Q with
  |nil=>intro x y _ _ h;cases h;rfl
  |cons f Q ih=>
   intro x y L hr h;obtain⟨w,hw,h⟩:=h;have hm:(f,w)∈(lG (z.map (Node.mk 0))).sc x:=by rw[U x L];exact aD.2 ⟨_,hw,ai⟩
   have S:=N.sol.ar x L _ hm;have hwl:w<z.length:=by have:=((I.aw x L).ok _ hw).2;simp only at this;omega
   have hx2:=(Jf N.go.bd (N.lt 0 P)).2 hr;have hx3:=BP (vR hx2);have hm3:(f,(iy G z.length (K 0)).idxOf (K w))∈iN (kj G z.length (K 0)) ((iy G z.length (K 0)).idxOf (K x)):=by rw[hx3];exact aD.2 ⟨_,S,rfl⟩
   show(match Bp (iN _ _) f with|some k=>AZ _ k Q|none=>none)=_;rw[(xM (hc.vP _)).2 hm3];exact ih hwl (hr.step S) h
 have i0:(iy G z.length (K 0)).idxOf (K 0)=0:=wm (sn N.go.bd (N.lt 0 P)).nd (yW N.go.bd (N.lt 0 P));have pA:=O P .root I.pa;have pB:=O P .root I.pb;rw[i0,q] at pA;rw[i0,gp] at pB;refine⟨hc,⟨_,pA,pB⟩,λC T' sb hT hC hk=> ?_⟩;obtain⟨k,k1,k2⟩:=hk;obtain⟨m,m0,m1,m2,m3⟩:=I.dD C T' k hC k1 k2;rw[IV k2] at m2;refine le_zero hT hc hC ?_;have hl:(replicate C.ak.length (0:Int)).length=C.ak.length:=ai;have esc:(jj (Bh C (replicate C.ak.length 0))).sc=(jj C).sc:=Ck hl;have ety:∀y,(jj (Bh C (replicate C.ak.length 0))).ty y=0:=λy=>by
  show oB _ y=0;by_cases hy:y<C.ak.length
  .rw[GV hl hy,bw,p9,aB hy];rfl
  .unfold oB;rw[gA (by rw[vC hl];omega)]
 refine N.le to0 P (aa9 hC) (m:=m) ⟨λx L=>⟨ZK x L,ety _⟩,λx L p hp=> ?_,λp hp=> ?_⟩ m0
 .rw[U x L] at hp;obtain⟨a,ha,rfl⟩:=aD.1 hp;rw[esc];exact m3 x L a ha
 .simp only[cz] at hp;subst hp;simp only;by_cases h:A.length<=n
  .rw[R,ha,xe h,Nat.max_eq_right h,m1,m2]
  .rw[R,ha,Nat.min_eq_right af,Nat.max_eq_left af,m1,m2]
theorem c544:∃f,f544 A B=some f/\Shr F A B f/\f.ak.length<=A.length+1+B.length:=by
 have a1:f553 A [⟨0,[]⟩] [some []]=some ((A.length:Int),(zk A).map (Node.mk 0)):=by have:=(h553 (F:=F) (A:=[]) (B:=A) hA ai hAl hF (o4:=⟨[]⟩) A.length 0 0 [[]] [⟨0,[]⟩] af (SI.init (A:=[]) ai) rfl ai).1;have e:=grw_ch (p:=A) A.length 0 af;have e0:zk (A.take 0)=[[]]:=rfl;rw[e0] at e;rw[e] at this;exact e553 this
 have hcl:(zk A).length=A.length+1:=by simp[zk]
 obtain⟨g1,I⟩:=h553 (F:=F) (A:=A) (B:=B) hB hAl hBl hF (o4:=⟨[]⟩) B.length 0 0 (zk A) ((zk A).map (Node.mk 0)) af (SI.init hA) ai λx L=>by obtain⟨y,_,rfl⟩:=aD.1 L;rfl
 rw[p7] at g1 I;have mm:∀O:List (List b9),(O.map (Node.mk 0)).map (λx=>some x.bV)=O.map some:=λO=>by rw[eG];rfl
 have a2:f553 B ((zk A).map (Node.mk 0)) (((zk A).map (Node.mk 0)).map (λx=>some x.bV))=some ((((XC B 0 (zk A)).1:Nat):Int),(XC B 0 (zk A)).2.map (Node.mk 0)):=by rw[mm];exact e553 g1
 generalize hn:(XC B 0 (zk A)).1=n at *;generalize hz:(XC B 0 (zk A)).2=w at *;have hIl:=I.len;have hIle:=I.le;have V:=I.nlt;have G:(w.map (Node.mk 0)).length=w.length:=ai;have K:∀x∈w.map (Node.mk 0),AW F (w.map (Node.mk 0)).length x.bV:=λx L=>by obtain⟨i,S⟩:=jJ.1 L;have z:=(bP.1 S).1;rw[G] at z⊢;rw[dA,aM z] at S;have e:Node.mk 0 w[i]=x:=fe S;have:=I.aw i z;rw[bw,aM z] at this;rw[<-e];exact this
 have U:w.length *F<=300000000:=by have:=nP (by omega:w.length<=3000) hF;omega
 have a3:=c449 (n:=w.length) af;have a4:=c450 (n:=w.length) (x:=A.length) (y:=n) af af V;obtain⟨out,ty,ar,rep,d,a5,ho,J⟩:=c451 (F:=F) (l:=w.map (Node.mk 0)) (lo:=min A.length n) (a:=max A.length n) af af (by rw[G];exact U) af af K;have N:∀c,(replicate w.length (0:Int)).getD c 0=0:=λc=>by rw[bw,p9];split<;>rfl
 obtain⟨g,O,a6,hg1,Iq,R⟩:=c453 (F:=F) (l:=w.map (Node.mk 0)) af af K J.pi.len ho J.pi.rl (types:=replicate w.length 0) ai (root:=0) af
 have Q:=Yt to0 K (U:=lG (w.map (Node.mk 0))) (λ_ _=>rfl) (λ_ _=>rfl) J (types:=replicate w.length 0) (λc hc=>by
  rw[N,N,Tm hc,kF]
  exact⟨af,rfl,⟨rfl,rfl⟩,λu h1 h2 _=>⟨rfl,af⟩⟩) Iq R
 rw[G] at Q a5 a6;have hs:=abP hA hB hAl hBl hF I rfl rfl Q;have hzz:=aes Q af;refine⟨_,e544 ?_,hs,af⟩;have e0:(0:Int)=((0:Nat):Int):=rfl;rw[c414,aj,a1,mw,a2,mw,mm];show yD Hf _ _ _=_;rw[qc ai,zip0 ai λx L=>by obtain⟨y,_,rfl⟩:=aD.1 L;rfl,G,a3,aj,a4,aj,a5,aj,bW ⟨af,by omega,by omega,af⟩,aZ];have P:f453 (w.map (Node.mk 0)) out (replicate w.length 0) 0=_:=a6;rw[P,aj]
end
section
variable {h:aJ} {T F:Nat} {sb:Int->Int->Prop} (H:HM h T sb) {A:FSt} (hA:Can T F A) {p q:List Int} (hp:∀f∈p,0<=f/\f<(F:Int)) (hq:∀f∈q,0<=f/\f<(F:Int)) (RC:p.length<=1000) (hql:q.length<=1000) (uL:0<T) (hF:F<=300) (hn:A.ak.length<=900000)
include H hA hp hq RC hql uL hF hn
theorem abA:(∃f,f438 h A p q=some (f,true)/\f537 h A p q=some (f,true)/\Eqt T F sb A p q f/\f.ak.length<=A.ak.length+(p.length+1)+(q.length+1))\/
  (f438 h A p q=some (⟨[]⟩,false)/\f537 h A p q=some (⟨[]⟩,false)/\∀C,Can T F C->Le sb A C->(∃k,oN C p=some k/\oN C q=some k)->False):=by
 obtain⟨e,e1,G,U⟩:=c544 (F:=F) hp hq RC hql af;have I:=G.can.up (T':=T) uL;have P:∀f b,f440 h A e=some (f,b)->f537 h A p q=some (f,b):=λf b S=>e537 (by rw[e1,aj,S];rfl)
 rcases c438g H hA hp hq uL hF af with⟨f,K,z,V⟩|⟨K,z⟩<;>rcases c440 H hA I hF af with⟨N,L,w⟩|⟨L,w⟩
 .have:f=N:=Eqt.uniq H.to z ⟨w.can,w.l,(G.le H.to uL w.can).1 w.r,λC O Q R=>w.least C O Q ((G.le H.to uL O).2 R)⟩
  subst this;exact .inl ⟨f,K,P _ _ L,z,V⟩
 .exact(w f z.can z.l ((G.le H.to uL z.can).2 z.at_)).elim
 .exact(z N w.can w.l ((G.le H.to uL w.can).1 w.r)).elim
 .exact .inr ⟨K,P _ _ L,z⟩
end
