/- Build. -/
import Derived.Test.YthphfjcnkinkpaaGreatDoorClUc
import Derived.Test.YthphfjcnkinkpaaGreatDoorClXo
set_option linter.all false
open Int (toNat)
open List (length replicate)
namespace Go.Proofs.YthphfjcnkinkpaaGreatDoor.cl.pf
open Go Go.AM
structure Eqt (T F:Nat) (sb:Int->Int->Prop) (A:FSt) (p q:List Int) (f:FSt):Prop where
 can:Can T F f
 l:Le sb A f
 at_:∃k,oW f p=some k/\oW f q=some k
 least:∀C,Can T F C->Le sb A C->(∃k,oW C p=some k/\oW C q=some k)->Le sb f C
def Eqt.uniq {T F:Nat} {sb:Int->Int->Prop} (hT:TO T sb) {A:FSt} {p q:List Int} {f g:FSt} (w:Eqt T F sb A p q f) (z:Eqt T F sb A p q g):f=g:=
 Le.anti hT w.can z.can (w.least g z.can z.l z.at_) (z.least f w.can w.l w.at_)
structure Emb (T F:Nat) (l:List Node) (s:Nat) (B:FSt):Prop where
 can:Can T F B
 get:∀i,(hi:i<B.au.length)->l[i+s]? =some (PZ s B.au[i])
section
variable {T F:Nat} {l:List Node} {s:Nat} {B:FSt} (h:Emb T F l s B)
include h
theorem Emb.lt {i:Nat} (w:i<B.au.length):i+s<l.length:=(bR.1 (h.get i w)).1
theorem Emb.sc {i:Nat} (w:i<B.au.length):(lG l).sc (i+s)=(iD B i).map λp=>(p.1,p.2+s):=by rw[Na (h.lt w),(bR.1 (h.get i w)).2,sN w];exact Yp (h.can.ao (bB w))
theorem Emb.ty {i:Nat} (w:i<B.au.length):(lG l).ty (i+s)=mI B i:=by rw[S8 (h.lt w),(bR.1 (h.get i w)).2,oa w];rfl
theorem Emb.sol {sb:Int->Int->Prop} {C:FSt} {G m:Nat->Nat} (z:∀i,i<B.au.length->m (i+s)=G i) (I:yW sb (jI B) 0 (jI C) 0 G) {i:Nat} (w:i<B.au.length):
  sb ((lG l).ty (i+s)) ((jI C).ty (m (i+s)))/\∀p∈(lG l).sc (i+s),(p.1,m p.2)∈(jI C).sc (m (i+s)):=by
 have:=I.2 i (h.can.LX w);rw[z i w,h.ty w,h.sc w];refine⟨this.1,λp hp=> ?_⟩;obtain⟨q,hq,rfl⟩:=aG.1 hp;simp only;rw[z q.2 (h.can.bd i w q hq)];exact this.2 q hq
theorem Emb.part {sb:Int->Int->Prop} (hT:TO T sb) (I:0<l.length) {W:List (Nat×Nat)} {G:Gr} {w:Nat->Nat} (K:YX T F sb (lG l) l.length W G w) (L:w s=w 0):
  yW sb (jI B) 0 (jI (kI G l.length (w 0))) 0 (λi=>(jo G l.length (w 0)).idxOf (w (i+s))):=by
 refine K.part hT I (A:=jI B) (s:=0) (e:=λi=>i+s) (λi z=> ?_) (by simpa using L);have z:=h.can.Ms z;exact⟨h.lt z,h.ty z,h.sc z⟩
end
def uB (A B D:FSt):List Node:=A.au.map (PZ 0)++B.au.map (PZ A.au.length)++D.au.map (PZ (A.au.length+B.au.length))
def aek {T F:Nat} {sb:Int->Int->Prop} {U:Gr} {n:Nat} {W:List (Nat×Nat)} {G:Gr} {z:Nat->Nat} (w:YX T F sb U n W G z) (I:0<n):(kI G n (z 0)).au.length<=n:=by rw[FZ];have:=sw w.go.bd (w.lt 0 I);exact s5 this.nd this.lt
section
variable {T F:Nat} {A B D:FSt} (hA:Can T F A) (hB:Can T F B) (hD:Can T F D)
theorem Ri:(uB A B D).length=A.au.length+B.au.length+D.au.length:=by simp[uB];omega
include hA in
theorem aef:Emb T F (uB A B D) 0 A:=⟨hA,λi w=>by
 unfold uB
 rw[ef,fV (by simpa using w),dK,lY,aM w];rfl⟩
include hB in
theorem aeg:Emb T F (uB A B D) A.au.length B:=⟨hB,λi w=>by
 unfold uB
 rw[ef,gD ai,bz,lN,fV (by simpa using w),dK,aM w];rfl⟩
include hD in
theorem aeh:Emb T F (uB A B D) (A.au.length+B.au.length) D:=⟨hD,λi w=>by
 unfold uB
 rw[gD ai,cE,bz,bz,lN,dK,aM w];rfl⟩
theorem NH {x:Nat} (z:x<(uB A B D).length):(∃i,i<A.au.length/\x=i+0)\/(∃i,i<B.au.length/\x=i+A.au.length)\/∃i,i<D.au.length/\x=i+(A.au.length+B.au.length):=by
 rw[Ri] at z;by_cases w:x<A.au.length
 .exact .inl ⟨x,w,rfl⟩
 .by_cases G:x<A.au.length+B.au.length
  .exact .inr (.inl ⟨x-A.au.length,by omega,af⟩)
  .exact .inr (.inr ⟨x-(A.au.length+B.au.length),by omega,af⟩)
include hA hB hD
theorem tri_sol {sb:Int->Int->Prop} {C:FSt} {L G I:Nat->Nat} (U:yW sb (jI A) 0 (jI C) 0 L) (V:yW sb (jI B) 0 (jI C) 0 G) (h3:yW sb (jI D) 0 (jI C) 0 I) {i j:Nat} (w:i<B.au.length) (hj:j<D.au.length) (e:G i=I j):
  ∃m,m 0=0/\Ux sb (lG (uB A B D)) (uB A B D).length ([(0,A.au.length)]++[(A.au.length,A.au.length+B.au.length)]++[(A.au.length+i,A.au.length+B.au.length+j)]) (jI C) m:=by
 have a0:=hA.ne;have b0:=hB.ne;have d0:=hD.ne;generalize K:(λx=>if x<A.au.length then L x else if x<A.au.length+B.au.length then G (x-A.au.length) else I (x-(A.au.length+B.au.length)))=m;have ma:∀i,i<A.au.length->m (i+0)=L i:=λi w=>by rw[<-K];simp only[lY];rw[aB w]
 have N:∀i,i<B.au.length->m (i+A.au.length)=G i:=λi w=>by rw[<-K];simp only;rw[az af,aB af,lN]
 have O:∀i,i<D.au.length->m (i+(A.au.length+B.au.length))=I i:=λi w=>by rw[<-K];simp only;rw[az af,az af,lN]
 have R:=ma 0 a0;have S:=N 0 b0;have r3:=O 0 d0;rw[U.1] at R;rw[eO,V.1] at S;rw[eO,h3.1] at r3;have key:∀x,x<(uB A B D).length->sb ((lG (uB A B D)).ty x) ((jI C).ty (m x))/\∀p∈(lG (uB A B D)).sc x,(p.1,m p.2)∈(jI C).sc (m x):=λx z=>by
  rcases NH z with⟨i,w,rfl⟩|⟨i,w,rfl⟩|⟨i,w,rfl⟩
  .exact(aef hA).sol ma U w
  .exact(aeg hB).sol N V w
  .exact(aeh hD).sol O h3 w
 refine⟨m,R,λx z=>(key x z).1,λx z=>(key x z).2,λp hp=> ?_⟩;simp only[gC,dQ,aS,nG,pZ] at hp;rcases hp with rfl|rfl|rfl
 .rw[S];exact R
 .show m A.au.length=m (A.au.length+B.au.length);rw[S,r3]
 .show m (A.au.length+i)=m (A.au.length+B.au.length+j);have e1:=N i w;have e2:=O j hj;rw[kN A.au.length i,kN (A.au.length+B.au.length) j,e1,e2,e]
end
section
variable {T F:Nat} {sb:Int->Int->Prop} (hT:TO T sb) {A:FSt} (hA:Can T F A) {p q:List Int} (hp:∀f∈p,0<=f/\f<(F:Int)) (hq:∀f∈q,0<=f/\f<(F:Int)) (uG:0<T)
include hT hA hp hq uG
abbrev eqnW (A:FSt) (p q:List Int):List (Nat×Nat):=[(0,A.au.length)]++[(A.au.length,A.au.length+(p.length+1))]++[(A.au.length+p.length,A.au.length+(p.length+1)+q.length)]
theorem Uk {C:FSt} (w:Can T F C) (G:Le sb A C) (U:∃k,oW C p=some k/\oW C q=some k):
  ∃m,m 0=0/\Ux sb (lG (uB A (sV p 0) (sV q 0))) (uB A (sV p 0) (sV q 0)).length (eqnW A p q) (jI C) m:=by
 obtain⟨mA,G⟩:=G;obtain⟨k,I,K⟩:=U;have O:=vj (T:=T) uG hp ⟨jL 0,af⟩;have R:=vj (T:=T) uG hq ⟨jL 0,af⟩;have V:=se p 0;have lq:=se q 0;have top:∀k,oW C p=some k\/oW C q=some k->sb 0 (mI C k):=λk z=>by
  have:qG (iD C) 0 k:=by rcases z with z|z<;>exact Cl (λi _=>w.wT i) _ 0 _ .root z
  have:=w.go.tp _ (w.Ms this);exact hT.top this.1 this.2
 obtain⟨mp,S⟩:=(Oi hT hp ⟨jL 0,af⟩ w).2 ⟨k,I,top k (.inl I)⟩;obtain⟨mq,eq⟩:=(Oi hT hq ⟨jL 0,af⟩ w).2 ⟨k,K,top k (.inr K)⟩;have L:=AB O w S (π:=p) (k:=p.length) (by have:=JD (π:=p) (t:=0) p.length (aZ _);rwa[fT] at this);have N:=AB R w eq (π:=q) (k:=q.length) (by have:=JD (π:=q) (t:=0) q.length (aZ _);rwa[fT] at this);rw[I] at L;rw[K] at N;have:=tri_sol hA O R G S eq (i:=p.length) (j:=q.length) af af (fR (L.symm.trans N));rw[V] at this;exact this
theorem tri_eqt {G:Gr} {z:Nat->Nat} (w:YX T F sb (lG (uB A (sV p 0) (sV q 0))) (uB A (sV p 0) (sV q 0)).length (eqnW A p q) G z):
  Eqt T F sb A p q (kI G (uB A (sV p 0) (sV q 0)).length (z 0)):=by
 have L:=vj (T:=T) uG hp ⟨jL 0,af⟩;have N:=vj (T:=T) uG hq ⟨jL 0,af⟩;have R:=se p 0;have lq:=se q 0;have I:0<(uB A (sV p 0) (sV q 0)).length:=by rw[Ri];have:=hA.ne;omega
 have S:z 0=z A.au.length:=w.sol.eq (0,A.au.length) ai;have q1:z A.au.length=z (A.au.length+(p.length+1)):=w.sol.eq (A.au.length,A.au.length+(p.length+1)) ai;have q2:z (A.au.length+p.length)=z (A.au.length+(p.length+1)+q.length):=w.sol.eq (A.au.length+p.length,A.au.length+(p.length+1)+q.length) ai;have K:=w.can I;have m1:=(aef hA).part hT I w (s:=0) rfl;have m2:=(aeg L).part hT I w S.symm;have m3:=(aeh (D:=sV q 0) N).part hT I w (by rw[R,<-q1,S]);have U:=AB L K m2 (π:=p) (k:=p.length) (by have:=JD (π:=p) (t:=0) p.length (aZ _);rwa[fT] at this);have V:=AB N K m3 (π:=q) (k:=q.length) (by have:=JD (π:=q) (t:=0) q.length (aZ _);rwa[fT] at this);refine⟨K,⟨_,m1⟩,⟨_,U,?_⟩,λC O h1 h2=> ?_⟩
 .rw[V,R,kN q.length,kN p.length A.au.length,q2]
 .obtain⟨m,e0,hs⟩:=Uk hT hA hp hq uG O h1 h2;exact w.le hT I O hs e0
end
section
variable {h:aK} {T F:Nat} {sb:Int->Int->Prop} (H:HM h T sb) {A:FSt} (hA:Can T F A) {p q:List Int} (hp:∀f∈p,0<=f/\f<(F:Int)) (hq:∀f∈q,0<=f/\f<(F:Int)) (uG:0<T) (hF:F<=300) (hn:A.au.length+(p.length+1)+(q.length+1)<=1000000)
include H hA hp hq uG hF hn
theorem c438g:(∃f,f438 h A p q=some (f,true)/\Eqt T F sb A p q f/\f.au.length<=A.au.length+(p.length+1)+(q.length+1))\/
  (f438 h A p q=some (⟨[]⟩,false)/\∀C,Can T F C->Le sb A C->(∃k,oW C p=some k/\oW C q=some k)->False):=by
 have cp:=vj (T:=T) uG hp ⟨jL 0,af⟩;have cq:=vj (T:=T) uG hq ⟨jL 0,af⟩;have lp:=se p 0;have lq:=se q 0;have hl:=Ri (A:=A) (B:=sV p 0) (D:=sV q 0);have ha0:=hA.ne;have a1:f442 A.au h.Types h.bC [] [] []=some ((),ids 0 A.au.length,A.au.map (·.cR),A.au.map λx=>yV 0 x.bJ):=by rw[aaR (fr:=0) rfl rfl rfl af (hA.small af af)];simp
 have a2:f442 (sV p 0).au h.Types h.bC (ids 0 A.au.length) (A.au.map (·.cR)) (A.au.map λx=>yV 0 x.bJ)=
   some ((),ids 0 (A.au.length+(p.length+1)),A.au.map (·.cR)++(sV p 0).au.map (·.cR),(A.au.map λx=>yV 0 x.bJ)++(sV p 0).au.map λx=>yV A.au.length x.bJ):=by
  rw[aaR (fr:=A.au.length) (qI _ _) ai ai af (cp.small af af),lp];have:=IB 0 A.au.length (p.length+1);rw[eO] at this;rw[this]
 have a3:f442 (sV q 0).au h.Types h.bC (ids 0 (A.au.length+(p.length+1))) (A.au.map (·.cR)++(sV p 0).au.map (·.cR)) ((A.au.map λx=>yV 0 x.bJ)++(sV p 0).au.map λx=>yV A.au.length x.bJ)=
   some ((),ids 0 (uB A (sV p 0) (sV q 0)).length,(uB A (sV p 0) (sV q 0)).map (·.cR),(uB A (sV p 0) (sV q 0)).map (·.bJ)):=by
  rw[aaR (fr:=A.au.length+(p.length+1)) (qI _ _) (by simp[lp]) (by simp[lp]) af (cq.small af af),lq];have:=IB 0 (A.au.length+(p.length+1)) (q.length+1);rw[eO] at this;rw[this,hl,lp,lq];unfold uB;simp[PZ,nq,lp]
 generalize S:uB A (sV p 0) (sV q 0)=l at *;have J0:JI T (AO F l.length) sb (lG l) l.length [] [] (ids 0 l.length) (l.map (·.cR)) (l.map (·.bJ)) id (λ_=>0):=by
  have key:∀x,(G:x<l.length)->(0<=l[x].cR/\l[x].cR<(T:Int))/\AO F l.length l[x].bJ:=by
   have g:∀(s:Nat) (B:FSt),Emb T F l s B->(z:s+B.au.length<=l.length)->∀i,(L:i<B.au.length)->(0<=(l[i+s]'(by omega)).cR/\(l[i+s]'(by omega)).cR<(T:Int))/\AO F l.length (l[i+s]'(by omega)).bJ:=λs B E z i L=>by rw[(bR.1 (E.get i L)).2];show(0<=(B.au[i]).cR/\(B.au[i]).cR<(T:Int))/\AO F l.length (yV s (B.au[i]).bJ);exact⟨E.can.Um (bB L),(E.can.ao (bB L)).sh af⟩
   intro x G;have hx2:=G;rw[<-S] at hx2;rcases NH hx2 with⟨i,L,e⟩|⟨i,L,rfl⟩|⟨i,L,rfl⟩
   .have e:x=i:=e;subst e;exact g 0 A (S▸aef hA) af _ L
   .exact g _ _ (S▸aeg cp) af i L
   .exact g _ _ (S▸aeh cq) af i L
  refine JI.init H.to.refl rfl ai ai (λx G=> ?_) (λx G=> ?_) (λx _=>rfl) (λx _=>rfl)
  .rw[kP G];exact(key x G).1
  .rw[kP G];exact(key x G).2
 have U:l.length *F<=400000000:=by have:=nU (by omega:l.length<=1000000) hF;omega
 have hbd:Bd (lG l).sc l.length:=λx G r V=>by rw[Na G] at V;obtain⟨a,ha,rfl⟩:=aG.1 V;have:=J0.ao x G;rw[kP G] at this;have:=(this.ok a ha).2;show a.To.toNat<_;omega
 have w:∀C,Can T F C->Le sb A C->(∃k,oW C p=some k/\oW C q=some k)->∃m,Ux sb (lG l) l.length (eqnW A p q) (jI C) m:=λC K O R=>by obtain⟨m,_,z⟩:=Uk H.to hA hp hq uG K O R;rw[S] at z;exact⟨m,z⟩
 have e0:(0:Int)=((0:Nat):Int):=rfl;have w1:((ids 0 A.au.length).length:Int)=(A.au.length:Int):=by rw[qI]
 have w2:((ids 0 (A.au.length+(p.length+1))).length:Int)=((A.au.length+(p.length+1):Nat):Int):=by rw[qI]
 have v1:IntKind.wrap .i64 ((A.au.length:Int)+(p.length:Int))=((A.au.length+p.length:Nat):Int):=by rw[oE af af];omega
 have v2:IntKind.wrap .i64 (((A.au.length+(p.length+1):Nat):Int)+(q.length:Int))=((A.au.length+(p.length+1)+q.length:Nat):Int):=by rw[oE af af];omega
 rcases c443 H af (by omega:0<l.length) (by omega:A.au.length<l.length) U J0 with⟨p1,t1,r1,rep1,d1,j1,J1⟩|⟨⟨p1,t1,r1,j1⟩,I⟩
 .rcases c443 H af (by omega:A.au.length<l.length) (by omega:A.au.length+(p.length+1)<l.length) U J1 with⟨p2,t2,r2,rep2,d2,j2,J2⟩|⟨⟨p2,t2,r2,j2⟩,I⟩
  .rcases c443 H af (by omega:A.au.length+p.length<l.length) (by omega:A.au.length+(p.length+1)+q.length<l.length) U J2 with⟨p3,t3,r3,rep3,d3,j3,N⟩|⟨⟨p3,t3,r3,j3⟩,I⟩
   .obtain⟨p4,g⟩:=c444 (TL:=h.Types) (FL:=h.bC) (d:=d3) N.la N.lt N.ao N.pi.rl N.pi.rr af af (by omega:0<l.length) N.pi;have hU:=N.uni hbd;have hz:=aek hU af;have he:=tri_eqt H.to hA hp hq uG (by rw[S];exact hU);rw[S] at he;refine .inl ⟨_,e438 ?_,he,af⟩;rw[e425 rfl,aj,RT af,aj,aj,RT af,aj,a1,cF,a2,cF,a3,cF,w1,w2,v1,v2,e0,j1,cF,cond_neg (by rfl),j2,cF,cond_neg (by rfl),j3,cF,cond_neg (by rfl),g,cF]
   .refine .inr ⟨e438 ?_,λC K O R=> ?_⟩
    .rw[e425 rfl,aj,RT af,aj,aj,RT af,aj,a1,cF,a2,cF,a3,cF,w1,w2,v1,v2,e0,j1,cF,cond_neg (by rfl),j2,cF,cond_neg (by rfl),j3,cF,cond_pos (by rfl)]
    .obtain⟨m,z⟩:=w C K O R;exact I _ m K.LW z
  .refine .inr ⟨e438 ?_,λC K O R=> ?_⟩
   .rw[e425 rfl,aj,RT af,aj,aj,RT af,aj,a1,cF,a2,cF,a3,cF,w1,w2,v1,v2,e0,j1,cF,cond_neg (by rfl),j2,cF,cond_pos (by rfl)]
   .obtain⟨m,z⟩:=w C K O R;exact I _ m K.LW ⟨z.ty,z.ar,λr V=>z.eq r (cO _ V)⟩
 .refine .inr ⟨e438 ?_,λC K O R=> ?_⟩
  .rw[e425 rfl,aj,RT af,aj,aj,RT af,aj,a1,cF,a2,cF,a3,cF,w1,w2,v1,v2,e0,j1,cF,cond_pos (by rfl)]
  .obtain⟨m,z⟩:=w C K O R;exact I _ m K.LW ⟨z.ty,z.ar,λr V=>z.eq r (cO _ (cO _ V))⟩
end
end Go.Proofs.YthphfjcnkinkpaaGreatDoor.cl.pf
namespace Go.Proofs.YthphfjcnkinkpaaGreatDoor.cl.pf
open Go Go.AM
def Xt:List Int->Nat->List (List cz)->Nat×List (List cz)
 |[],n,w=>(n,w)
 |f::z,n,w=>match fa (w.getD n []) f with
  |some a=>Xt z a.To.toNat w
  |none=>Xt z w.length (w.set n (w.getD n []++[⟨f,(w.length:Nat)⟩])++[[]])
def zip0:∀{w:List Node} {G:List (List cz)},w.length=G.length->(∀x∈w,x.cR=0)->List.zipWith GJ w G=G.map (Node.mk 0)
 |[],[],_,_=>rfl
 |x::w,y::G,I,h=>by rw[List.zipWith_cons_cons,bS,zip0 (by simpa using I) λz K=>h z (dB _ K)];show(⟨x.cR,y⟩:Node)::_=_;rw[h x ai]
section
variable {F:Nat} {A B:List Int} (hA:∀f∈A,0<=f/\f<(F:Int)) (hB:∀f∈B,0<=f/\f<(F:Int)) (hAl:A.length<=1000) (hBl:B.length<=1000) (hF:F<=1000)
include hB hAl hBl hF in
theorem h553 {o4:FSt}:∀(k i n:Nat) (z:List (List cz)) (w:List Node),B.length=i+k->SI F A B n i z->w.length=z.length->(∀x∈w,x.cR=0)->
  Am B (n:Int) (i:Int) o4 w (z.map some)=some ((((Xt (B.drop i) n z).1:Nat):Int),(Xt (B.drop i) n z).2.map (Node.mk 0))/\SI F A B (Xt (B.drop i) n z).1 B.length (Xt (B.drop i) n z).2:=by
 intro k;induction k with
 |zero=>intro i n z w hi I O U;have e:i=B.length:=af;subst e;rw[rL];refine⟨adh ?_,I⟩;rw[cond_neg (by rw[aQ];omega)];show yf GJ _ _ _=_;rw[qd O,zip0 O U];rfl
 |succ k ih=>
  intro i n z w hi I O U;have K:=I.nlt;have hIle:=I.le;have G:i<B.length:=af;have hlen:=(I.aw n K).len;have V:(z.map (Node.mk 0))[n]? =some ⟨0,z.getD n []⟩:=by rw[dK,aM K,bA,aM K];rfl
  rw[iH G]
  have pre:∀r,(bif(!(fr (z.getD n []) B[i]).2) then(
    check ((length w+length [(Node.mk 0 ([]:List cz))]) *32<=140737488355328/\length w+length [(Node.mk 0 ([]:List cz))]<=4611686018427387904) (
    AT (z.map some++[some []]) λm207=>
    check (0<=(n:Int)/\toNat (n:Int)<length (w++[(Node.mk 0 ([]:List cz))])) (
    Wq m207 (toNat (n:Int)) λL R=>
    bf B (i:Int) λN=>
    check ((length L+length [(cz.mk N ((length w:Int)))]) *16<=140737488355328/\length L+length [(cz.mk N ((length w:Int)))]<=4611686018427387904) (
    check (0<=(n:Int)/\toNat (n:Int)<length (w++[(Node.mk 0 ([]:List cz))])) (
    check ((toNat (n:Int))<length R) (AT (List.set R (toNat (n:Int)) (some (L++[(cz.mk N ((length w:Int)))]))) λm213=>
    Am B ((length w:Int)) ((i+1:Nat):Int) o4 (w++[(Node.mk 0 ([]:List cz))]) m213)))))) else Am B (fr (z.getD n []) B[i]).1 ((i+1:Nat):Int) o4 w (z.map some))=some r->Am B (n:Int) (i:Int) o4 w (z.map some)=some r:=λr hr=>by
   refine adh ?_;rw[bM af,cond_pos (by rw[bg];omega),bU G];show yf GJ _ _ _=_;rw[qd O,zip0 O U,aaS V (by show(z.getD n []).length<=_;omega),aj];exact hr
  unfold Xt;cases e:fa (z.getD n []) B[i] with
  |some a=>
   obtain⟨h1,h2⟩:=I.go hB G e;obtain⟨g1,g2⟩:=ih (i+1) a.To.toNat z w af h2 O U;refine⟨pre _ ?_,g2⟩;unfold fr;rw[e];simp only[];rw[cond_neg (by rfl)]
   have:((a.To.toNat:Nat):Int)=a.To:=af
   rw[this] at g1;exact g1
  |none=>
   have I2:=I.new hB G e;obtain⟨g1,g2⟩:=ih (i+1) z.length _ (w++[⟨0,[]⟩]) af I2 (by simp[O]) λx S=>by
    rcases bu.1 S with S|S
    .exact U x S
    .simp at S;subst S;rfl
   refine⟨pre _ ?_,g2⟩;have em:z.map some++[some []]=(z++[[]]).map some:=by rw[cL];rfl
   have e1:(z++[[]]).getD n []=z.getD n []:=zM K;have e2:((z++[[]]).map some).set n (some (z.getD n []++[(⟨B[i],(z.length:Nat)⟩:cz)]))=(z.set n (z.getD n []++[(⟨B[i],(z.length:Nat)⟩:cz)])++[[]]).map some:=by rw[<-uP,yY _ _ K]
   unfold fr;rw[e];simp only[];rw[cond_pos (by rfl),cC _ af ai af,Cw,em,Ay aI,aT,Nr aI,bU G,e1,cC _ af ai af,bT ⟨af,aI⟩,bT aI,List.set_set,Cw,O,e2];exact g1
theorem aaY {p:List Int} {i:Nat} (L:i<p.length):(yT (p.take i)).set i [⟨p[i],((i+1:Nat):Int)⟩]++[[]]=yT (p.take (i+1)):=by
 have N:(p.take i).length=i:=by rw[e7];omega
 have O:(p.take (i+1)).length=i+1:=by rw[e7];omega
 have w:(yT (p.take i)).length=i+1:=by simp[yT,N]
 have c2:(yT (p.take (i+1))).length=i+2:=by simp[yT,O]
 apply kO;intro j;have G:∀(k j:Nat),j<k+1->k<=p.length->(yT (p.take k))[j]? =some (if h:j<k then[⟨p.getD j 0,((j+1:Nat):Int)⟩] else[]):=λk j S U=>by
  have R:(p.take k).length=k:=by rw[e7];omega
  have I:j<(yT (p.take k)).length:=by simp[yT,R];omega
  rw[aM I];congr 1;have e:(yT (p.take k))[j]=(yT (p.take k)).getD j []:=by rw[bA,aM I];rfl
  rw[e];by_cases h:j<k
  .rw[Cn af,kB h,List.getElem_take,bA,aM (by omega:j<p.length)];rfl
  .rw[Eo af,r5 h]
 by_cases K:j<i+1
 .rw[fV (by simp[w];omega),wR,G (i+1) j af af,kB K];by_cases z:i=j
  .subst z;rw[aB rfl,aB af,bA,aM L];rfl
  .rw[az z,G i j af af,kB af]
 .by_cases z:j=i+1
  .subst z;rw[gD (by simp[w]),G (i+1) (i+1) af af,r5 af];simp[w]
  .rw[gH (by simp[w];omega),gH af]
theorem grw_ch {p:List Int}:∀(k i:Nat),p.length=i+k->Xt (p.drop i) i (yT (p.take i))=(p.length,yT p):=by intro k;induction k with
 |zero=>intro i G;have e:i=p.length:=af;subst e;rw[rL,fT];rfl
 |succ k I=>
  intro i G;have w:i<p.length:=af;have K:(p.take i).length=i:=by rw[e7];omega
  have z:(yT (p.take i)).length=i+1:=by simp[yT,K]
  rw[iH w];unfold Xt;have e:(yT (p.take i)).getD i []=[]:=Eo af;rw[e];show Xt _ _ _=_;rw[z,dQ,aaY w];exact I (i+1) af
include hA hB hAl hBl hF
theorem abA {n:Nat} {z:List (List cz)} (I:SI F A B n B.length z) {lo a:Nat} (U:lo=min A.length n) (ha:a=max A.length n) {G:Gr} {K:Nat->Nat} (N:YX 1 F sb0 (lG (z.map (Node.mk 0))) z.length [(lo,a)] G K):
  Shr F A B (kI G z.length (K 0)):=by
 have hIl:=I.len;have R:0<z.length:=af;have hc:=N.can R;have hsc:∀x,x<z.length->(lG (z.map (Node.mk 0))).sc x=(z.getD x []).map λa=>(a.bw,a.To.toNat):=λx L=>by rw[Na (by simpa using L),kF,bA,aM L];rfl
 have EI:∀x,x<z.length->(lG (z.map (Node.mk 0))).ty x=0:=λx L=>by rw[S8 (by simpa using L),kF]
 have q:K A.length=K n:=by
  have:=N.sol.eq (lo,a) ai;simp only at this;by_cases h:A.length<=n
  .have e1:lo=A.length:=af;have e2:a=n:=af;rw[<-e1,<-e2];exact this
  .have e1:lo=n:=af;have e2:a=A.length:=af;rw[<-e1,<-e2];exact this.symm
 have O:∀{S:List Int} {x y:Nat},x<z.length->qG G.sc (K 0) (K x)->YW z x S y->Av (jI (kI G z.length (K 0))) ((jo G z.length (K 0)).idxOf (K x)) S=some ((jo G z.length (K 0)).idxOf (K y)):=by intro S;induction S with
  |nil=>intro x y _ _ h;cases h;rfl
  |cons f S ih=>
   intro x y L hr h;obtain⟨w,hw,h⟩:=h;have hm:(f,w)∈(lG (z.map (Node.mk 0))).sc x:=by rw[hsc x L];exact aG.2 ⟨_,hw,ai⟩
   have V:=N.sol.ar x L _ hm;have hwl:w<z.length:=by have:=((I.aw x L).ok _ hw).2;simp only at this;omega
   have hx2:=(IL N.go.bd (N.lt 0 R)).2 hr;have hx3:=Bt (vJ hx2);have hm3:(f,(jo G z.length (K 0)).idxOf (K w))∈iD (kI G z.length (K 0)) ((jo G z.length (K 0)).idxOf (K x)):=by rw[hx3];exact aG.2 ⟨_,V,rfl⟩
   show(match Ac (iD _ _) f with|some k=>Av _ k S|none=>none)=_;rw[(xA (hc.wT _)).2 hm3];exact ih hwl (hr.step V) h
 have i0:(jo G z.length (K 0)).idxOf (K 0)=0:=vW (sw N.go.bd (N.lt 0 R)).nd (yC N.go.bd (N.lt 0 R));have pA:=O R .root I.pa;have pB:=O R .root I.pb;rw[i0,q] at pA;rw[i0,fT] at pB;refine⟨hc,⟨_,pA,pB⟩,λC T' sb hT hC hk=> ?_⟩;obtain⟨k,k1,k2⟩:=hk;obtain⟨m,m0,m1,m2,m3⟩:=I.dG C T' k hC k1 k2;rw[Ip k2] at m2;refine le_zero hT hc hC ?_;have hl:(replicate C.au.length (0:Int)).length=C.au.length:=ai;have esc:(jI (AX C (replicate C.au.length 0))).sc=(jI C).sc:=BZ hl;have ety:∀y,(jI (AX C (replicate C.au.length 0))).ty y=0:=λy=>by
  show mI _ y=0;by_cases hy:y<C.au.length
  .rw[Gq hl hy,bA,nT,aB hy];rfl
  .unfold mI;rw[gH (by rw[xw hl];omega)]
 refine N.le to0 R (aaU hC) (m:=m) ⟨λx L=>⟨EI x L,ety _⟩,λx L p hp=> ?_,λp hp=> ?_⟩ m0
 .rw[hsc x L] at hp;obtain⟨a,ha,rfl⟩:=aG.1 hp;rw[esc];exact m3 x L a ha
 .simp only[cQ] at hp;subst hp;simp only;by_cases h:A.length<=n
  .rw[U,ha,wQ h,Nat.max_eq_right h,m1,m2]
  .rw[U,ha,Nat.min_eq_right af,Nat.max_eq_left af,m1,m2]
theorem c544:∃f,f544 A B=some f/\Shr F A B f/\f.au.length<=A.length+1+B.length:=by
 have a1:f553 A [⟨0,[]⟩] [some []]=some ((A.length:Int),(yT A).map (Node.mk 0)):=by have:=(h553 (F:=F) (A:=[]) (B:=A) hA ai hAl hF (o4:=⟨[]⟩) A.length 0 0 [[]] [⟨0,[]⟩] af (SI.init (A:=[]) ai) rfl ai).1;have e:=grw_ch (p:=A) A.length 0 af;have e0:yT (A.take 0)=[[]]:=rfl;rw[e0] at e;rw[e] at this;exact e553 this
 have hcl:(yT A).length=A.length+1:=by simp[yT]
 obtain⟨g1,I⟩:=h553 (F:=F) (A:=A) (B:=B) hB hAl hBl hF (o4:=⟨[]⟩) B.length 0 0 (yT A) ((yT A).map (Node.mk 0)) af (SI.init hA) ai λx L=>by obtain⟨y,_,rfl⟩:=aG.1 L;rfl
 rw[nR] at g1 I;have mm:∀O:List (List cz),(O.map (Node.mk 0)).map (λx=>some x.bJ)=O.map some:=λO=>by rw[e8];rfl
 have a2:f553 B ((yT A).map (Node.mk 0)) (((yT A).map (Node.mk 0)).map (λx=>some x.bJ))=some ((((Xt B 0 (yT A)).1:Nat):Int),(Xt B 0 (yT A)).2.map (Node.mk 0)):=by rw[mm];exact e553 g1
 generalize hn:(Xt B 0 (yT A)).1=n at *;generalize hz:(Xt B 0 (yT A)).2=w at *;have hIl:=I.len;have hIle:=I.le;have hnl:=I.nlt;have G:(w.map (Node.mk 0)).length=w.length:=ai;have K:∀x∈w.map (Node.mk 0),AW F (w.map (Node.mk 0)).length x.bJ:=λx L=>by obtain⟨i,V⟩:=iG.1 L;have z:=(bR.1 V).1;rw[G] at z⊢;rw[dK,aM z] at V;have e:Node.mk 0 w[i]=x:=fR V;have:=I.aw i z;rw[bA,aM z] at this;rw[<-e];exact this
 have hnF:w.length *F<=300000000:=by have:=nU (by omega:w.length<=3000) hF;omega
 have a3:=c449 (n:=w.length) af;have a4:=c450 (n:=w.length) (x:=A.length) (y:=n) af af hnl;obtain⟨out,ty,ar,rep,d,a5,ho,J⟩:=c451 (F:=F) (l:=w.map (Node.mk 0)) (lo:=min A.length n) (a:=max A.length n) af af (by rw[G];exact hnF) af af K;have N:∀c,(replicate w.length (0:Int)).getD c 0=0:=λc=>by rw[bA,nT];split<;>rfl
 obtain⟨g,O,a6,hg1,Iq,U⟩:=c453 (F:=F) (l:=w.map (Node.mk 0)) af af K J.pi.len ho J.pi.rl (types:=replicate w.length 0) ai (root:=0) af
 have S:=Yl to0 K (U:=lG (w.map (Node.mk 0))) (λ_ _=>rfl) (λ_ _=>rfl) J (types:=replicate w.length 0) (λc hc=>by
  rw[N,N,S8 hc,kF]
  exact⟨af,rfl,⟨rfl,rfl⟩,λu h1 h2 _=>⟨rfl,af⟩⟩) Iq U
 rw[G] at S a5 a6;have hs:=abA hA hB hAl hBl hF I rfl rfl S;have hzz:=aek S af;refine⟨_,e544 ?_,hs,af⟩;have e0:(0:Int)=((0:Nat):Int):=rfl;rw[c414,aj,a1,j9,a2,j9,mm];show yf GJ _ _ _=_;rw[qd ai,zip0 ai λx L=>by obtain⟨y,_,rfl⟩:=aG.1 L;rfl,G,a3,aj,a4,aj,a5,aj,bT ⟨af,by omega,by omega,af⟩,aT];have R:f453 (w.map (Node.mk 0)) out (replicate w.length 0) 0=_:=a6;rw[R,aj]
end
section
variable {h:aK} {T F:Nat} {sb:Int->Int->Prop} (H:HM h T sb) {A:FSt} (hA:Can T F A) {p q:List Int} (hp:∀f∈p,0<=f/\f<(F:Int)) (hq:∀f∈q,0<=f/\f<(F:Int)) (M6:p.length<=1000) (hql:q.length<=1000) (uG:0<T) (hF:F<=300) (hn:A.au.length<=900000)
include H hA hp hq M6 hql uG hF hn
theorem abj:(∃f,f438 h A p q=some (f,true)/\f537 h A p q=some (f,true)/\Eqt T F sb A p q f/\f.au.length<=A.au.length+(p.length+1)+(q.length+1))\/
  (f438 h A p q=some (⟨[]⟩,false)/\f537 h A p q=some (⟨[]⟩,false)/\∀C,Can T F C->Le sb A C->(∃k,oW C p=some k/\oW C q=some k)->False):=by
 obtain⟨e,e1,G,hsz⟩:=c544 (F:=F) hp hq M6 hql af;have I:=G.can.up (T':=T) uG;have R:∀f b,f440 h A e=some (f,b)->f537 h A p q=some (f,b):=λf b V=>e537 (by rw[e1,aj,V];rfl)
 rcases c438g H hA hp hq uG hF af with⟨f,K,z,j3⟩|⟨K,z⟩<;>rcases c440 H hA I hF af with⟨N,L,w⟩|⟨L,w⟩
 .have:f=N:=Eqt.uniq H.to z ⟨w.can,w.l,(G.le H.to uG w.can).1 w.r,λC O S U=>w.least C O S ((G.le H.to uG O).2 U)⟩
  subst this;exact .inl ⟨f,K,R _ _ L,z,j3⟩
 .exact(w f z.can z.l ((G.le H.to uG z.can).2 z.at_)).elim
 .exact(z N w.can w.l ((G.le H.to uG w.can).1 w.r)).elim
 .exact .inr ⟨K,R _ _ L,z⟩
end
end Go.Proofs.YthphfjcnkinkpaaGreatDoor.cl.pf
namespace Go.Proofs.YthphfjcnkinkpaaGreatDoor.cl.pf
open Go Go.AM
abbrev iX (F:Nat) (p:List Int):Prop:=∀f∈p,0<=f/\f<(F:Int)
def iX.app {F:Nat} {p q:List Int} (h:iX F p) (w:iX F q):iX F (p++q):=λf z=>(bu.1 z).elim (h f) (w f)
theorem iX.rep {F n:Nat} {a:Int} (h:0<=a/\a<(F:Int)):iX F (replicate n a):=λf w=>by rw[(List.mem_replicate.1 w).2];exact h
structure AR (F:Nat) (tg:List tag) (mp:List (cn×List Int)):Prop where
 get:∀s,getM mp s=(tg.find? λx=>x.Name==s).map (·.Path)
 ok:∀x∈tg,iX F x.Path/\x.Path.length<=200
def AR.nil {F:Nat}:AR F [] []:=⟨λs=>by rw[JU];rfl,λx w=>by cases w⟩
def AR.snoc {F:Nat} {tg:List tag} {mp:List (cn×List Int)} (h:AR F tg mp) {s:cn} {p:List Int} (I:(tg.find? λx=>x.Name==s)=none) (hp:iX F p) (G:p.length<=200):AR F (tg++[⟨s,p⟩]) (x6 mp s p):=by
 refine⟨λu=> ?_,λx w=> ?_⟩
 .rw[yt,List.find?_append];by_cases e:u=s
  .subst e;rw[aB rfl,I];simp
  .rw[az e,h.get];cases tg.find? λx=>x.Name==u with
   |some x=>rfl
   |none=>
    have:((⟨s,p⟩:tag).Name==u)=false:=by simpa using λz=>e z.symm
    simp[kH,this]
 .rcases bu.1 w with w|w
  .exact h.ok x w
  .simp at w;subst w;exact⟨hp,G⟩
def om {U V W:Type} (x:Option (U×V×W)):(eM x λa b c=>some (a,b,c))=x:=by cases x with
 |none=>rfl
 |some x=>rfl
def Tg (C:FSt) (w:cn->Nat) (mp:List (cn×List Int)):Prop:=∀s q,getM mp s=some q->oW C q=some (w s)
structure Sem (T F:Nat) (sb:Int->Int->Prop) (P:FSt->(cn->Nat)->Prop) (A:List Node) (mp:List (cn×List Int)) (B:List Node) (We:List (cn×List Int)):Prop where
 iff:∀C ρ,Can T F C->((Le sb ⟨A⟩ C/\Tg C ρ mp/\P C ρ)↔(Le sb ⟨B⟩ C/\Tg C ρ We))
 ex:(∃ρ,Tg ⟨A⟩ ρ mp)->∃ρ,Tg ⟨B⟩ ρ We
def Il (T F:Nat) (sb:Int->Int->Prop) (P:FSt->(cn->Nat)->Prop) (A:List Node) (mp:List (cn×List Int)):Prop:=∀C w,Can T F C->Le sb ⟨A⟩ C->Tg C w mp->P C w->False
section
variable {T F:Nat} {sb:Int->Int->Prop} {P Q:FSt->(cn->Nat)->Prop} {A B D:List Node} {mp We mp2:List (cn×List Int)}
def Sem.comp (h:Sem T F sb P A mp B We) (k:Sem T F sb Q B We D mp2):Sem T F sb (λC w=>P C w/\Q C w) A mp D mp2:=
 ⟨λC w G=>⟨λ⟨a,b,c,d⟩=>(k.iff C w G).1 ⟨((h.iff C w G).1 ⟨a,b,c⟩).1,((h.iff C w G).1 ⟨a,b,c⟩).2,d⟩,λx=>have y:=(k.iff C w G).2 x
  have z:=(h.iff C w G).2 ⟨y.1,y.2.1⟩
  ⟨z.1,z.2.1,z.2.2,y.2.2⟩⟩,λI=>k.ex (h.ex I)⟩
def Sem.cg (h:Sem T F sb P A mp B We) (e:∀C w,P C w↔Q C w):Sem T F sb Q A mp B We:=⟨λC w z=>by rw[<-e];exact h.iff C w z,h.ex⟩
def Sem.nil:Sem T F sb (λ_ _=>True) A mp A mp:=⟨λC w _=>⟨λ⟨a,b,_⟩=>⟨a,b⟩,λ⟨a,b⟩=>⟨a,b,trivial⟩⟩,λh=>h⟩
def Il.imp (h:Il T F sb P A mp) (e:∀C w,Q C w->P C w):Il T F sb Q A mp:=λC w a b c d=>h C w a b c (e C w d)
def Il.after (h:Sem T F sb P A mp B We) (k:Il T F sb Q B We):Il T F sb (λC w=>P C w/\Q C w) A mp:=λC w a b c ⟨d,e⟩=>
 have x:=(h.iff C w a).1 ⟨b,c,d⟩
 k C w a x.1 x.2 e
def Tg.up {f g:FSt} (z:Can T F f) (G:Can T F g) (h:Le sb f g) {w:cn->Nat} (I:Tg f w mp):∃w,Tg g w mp:=by obtain⟨m,h⟩:=h;exact⟨λs=>m (w s),λs q hq=>AB z G h (I s q hq)⟩
abbrev Jf (sb:Int->Int->Prop) (p:List Int) (g:FSt) (C:FSt):Prop:=Le sb (vz p g) C
abbrev EqS (p q:List Int) (C:FSt):Prop:=∃k,oW C p=some k/\oW C q=some k
def Yo (hT:TO T sb) {f:FSt} (G:Can T F f) {p:List Int} {g k':FSt} (h:Uw T F sb f (vz p g) k'):Sem T F sb (λC _=>Jf sb p g C) f.au mp k'.au mp:=
 ⟨λC I z=>⟨λ⟨a,b,c⟩=>⟨h.least C z a c,b⟩,λ⟨a,b⟩=>⟨Le.trans hT h.l a,b,Le.trans hT h.r a⟩⟩,λ⟨I,w⟩=>Tg.up G h.can h.l w⟩
end
section
variable {h:aK} {T F:Nat} {sb:Int->Int->Prop} {bQ:Int->Int} {val:Int->Int->Int} (H:HX h T F sb bQ val) (hT:T<=1000) (hF:F<=300)
theorem o518 (A:List Node) (p:List Int) (g:FSt) (tg:List tag):f518 h A false p g tg=some (A,false,tg):=e518 (by rw[aA])
theorem adM (A:List Node) (p q:List Int) (tg:List tag):f522 h A false p q tg=some (A,false,tg):=e522 (by rw[aA])
include H hT in
theorem s517 {A:List Node} {b:Bool} {p:List Int} {s:cn} {tg:List tag} {r:List Node×Bool×List tag} (w:f518 h A b p ⟨[⟨jC h s,[]⟩]⟩ tg=some r):f517 h A b p s tg=some r:=by have z:=H.tl;refine e517 ?_;rw[aaP _ _ af,aj,c414,aj];show yf GJ [⟨_,[]⟩] ([[]].map some) _=_;rw[qd rfl];show eM (f518 h A b p ⟨[⟨_,[]⟩]⟩ tg) _=_;rw[om];exact w
include H hT in
theorem Tz (A:List Node) (p:List Int) (s:cn) (tg:List tag):f517 h A false p s tg=some (A,false,tg):=s517 H hT (o518 A p _ tg)
include H hF
theorem s_put {A:List Node} (hA:Can T F ⟨A⟩) {g:FSt} (z:Can T F g) {p:List Int} (hp:iX F p) (hn:A.length+(p.length+g.au.length)<=1000000) (t:List Template) (tg:List tag):
  (∃B,f518 h A true p g tg=some (B,true,tg)/\(∀mp,MT p g h.Types h.bC t A mp=some (true,B,mp))/\Can T F ⟨B⟩/\B.length<=A.length+(p.length+g.au.length)/\Uw T F sb ⟨A⟩ (vz p g) ⟨B⟩)\/
  (∃B,f518 h A true p g tg=some (B,false,tg)/\(∀mp,MT p g h.Types h.bC t A mp=some (false,A,mp))/\∀C,Can T F C->Le sb ⟨A⟩ C->Jf sb p g C->False):=by
 have uG:0<T:=by have:=hA.go.tp 0 hA.ne;omega
 have K:=YL uG af hp z (aee z af af);rcases at_same H.hv.hm hA z uG hF hp hn with⟨f,G,I,w⟩|⟨G,I,w⟩
 .refine .inl ⟨f.au,e518 ?_,λmp=>e531a ?_,w.can,?_,w⟩
  .rw[ak,I,aj]
  .rw[show aK.mk h.Types h.bC=h from rfl,G,aj,ak]
  .have:=Uw.size H.hv hA K w;rw[FN] at this;exact this
 .refine .inr ⟨[],e518 ?_,λmp=>e531a ?_,w⟩
  .rw[ak,I,aj]
  .rw[show aK.mk h.Types h.bC=h from rfl,G,aj,aA]
theorem Pq {t:Int} (w:0<=t/\t<(T:Int)):Can T F ⟨[⟨t,[]⟩]⟩:=vj (T:=T) (F:=F) (π:=[]) (t:=t) af ai w
theorem ad1 {A:List Node} (hA:Can T F ⟨A⟩) {ty:Int} (I:0<=ty/\ty<(T:Int)) {p:List Int} (hp:iX F p) (hn:A.length+(p.length+1)<=1000000) (t:List Template) (tg:List tag):
  (∃B,f518 h A true p ⟨[⟨ty,[]⟩]⟩ tg=some (B,true,tg)/\(∀mp,vQ p ty h.Types h.bC t A mp=some (true,B,mp))/\Can T F ⟨B⟩/\B.length<=A.length+(p.length+1)/\Uw T F sb ⟨A⟩ (vz p ⟨[⟨ty,[]⟩]⟩) ⟨B⟩)\/
  (∃B,f518 h A true p ⟨[⟨ty,[]⟩]⟩ tg=some (B,false,tg)/\(∀mp,vQ p ty h.Types h.bC t A mp=some (false,A,mp))/\∀C,Can T F C->Le sb ⟨A⟩ C->Jf sb p ⟨[⟨ty,[]⟩]⟩ C->False):=by
 rcases s_put H hF hA (Pq H hF I) hp hn t tg with⟨B,w,z,G,K⟩|⟨B,w,z,G⟩
 .exact .inl ⟨B,w,λmp=>e530a (by rw[z,bG]),G,K⟩
 .exact .inr ⟨B,w,λmp=>e530a (by rw[z,bG]),G⟩
include hT in
theorem ad3 {A:List Node} (hA:Can T F ⟨A⟩) {s:cn} (I:0<=jC h s) {p:List Int} (hp:iX F p) (hn:A.length+(p.length+1)<=1000000) (t:List Template) (tg:List tag) (mp:List (cn×List Int)):
  (∃B,f517 h A true p s tg=some (B,true,tg)/\vQ p (jC h s) h.Types h.bC t A mp=some (true,B,mp)/\Can T F ⟨B⟩/\B.length<=A.length+(p.length+1)/\Sem T F sb (λC _=>Jf sb p ⟨[⟨jC h s,[]⟩]⟩ C) A mp B mp)\/
  (∃B,f517 h A true p s tg=some (B,false,tg)/\vQ p (jC h s) h.Types h.bC t A mp=some (false,A,mp)/\Il T F sb (λC _=>Jf sb p ⟨[⟨jC h s,[]⟩]⟩ C) A mp):=by
 have K:=H.tl
 have:jC h s<(h.Types.length:Int):=(IN _ _).1
 rcases ad1 H hF hA (ty:=jC h s) ⟨I,af⟩ hp hn t tg with⟨B,w,z,G,L,N⟩|⟨B,w,z,G⟩
 .exact .inl ⟨B,s517 H hT w,z mp,G,L,Yo H.hv.hm.to hA N⟩
 .exact .inr ⟨B,s517 H hT w,z mp,λC O a b _ d=>G C a b d⟩
theorem s_eq {A:List Node} (hA:Can T F ⟨A⟩) {p q:List Int} (hp:iX F p) (hq:iX F q) (M6:p.length<=1000) (hql:q.length<=1000) (hn:A.length<=900000) (t:List Template) (tg:List tag) (mp:List (cn×List Int)):
  (∃B,f522 h A true p q tg=some (B,true,tg)/\JM p q h.Types h.bC t A mp=some (true,B,mp)/\Can T F ⟨B⟩/\B.length<=A.length+(p.length+1)+(q.length+1)/\Sem T F sb (λC _=>EqS p q C) A mp B mp)\/
  (∃B,f522 h A true p q tg=some (B,false,tg)/\JM p q h.Types h.bC t A mp=some (false,A,mp)/\Il T F sb (λC _=>EqS p q C) A mp):=by
 have uG:0<T:=by have:=hA.go.tp 0 hA.ne;omega
 rcases abj H.hv.hm hA hp hq M6 hql uG hF hn with⟨f,G,I,w,N⟩|⟨G,I,w⟩
 .refine .inl ⟨f.au,e522 ?_,e532a ?_,w.can,N,λC K z=>⟨λ⟨a,b,c⟩=>⟨w.least C z a c,b⟩,λ⟨a,b⟩=>⟨Le.trans H.hv.hm.to w.l a,b,?_⟩⟩,λ⟨K,L⟩=>Tg.up hA w.can w.l L⟩
  .rw[ak,I,aj]
  .rw[show aK.mk h.Types h.bC=h from rfl,G,aj,ak]
  .obtain⟨m,a⟩:=a;obtain⟨k,O,R⟩:=w.at_;exact⟨m k,AB w.can z a O,AB w.can z a R⟩
 .refine .inr ⟨[],e522 ?_,e532a ?_,λC K a b _ d=>w C a b d⟩
  .rw[ak,I,aj]
  .rw[show aK.mk h.Types h.bC=h from rfl,G,aj,aA]
omit H hF in
theorem h519 {p:List Int} {s:cn} {A:List Node} {ok:Bool} {o:state} {tg:List tag} (I:tg.length<=100000) {r:List Node×Bool×List tag}:∀(xs:List tag) (i:Nat),tg.drop i=xs->
  (match xs.find? λx=>x.Name==s with
   |some x=>f522 h A ok x.Path p tg
   |none=>f518 h A ok p ⟨[⟨0,[]⟩]⟩ (tg++[⟨s,p⟩]))=some r->QX p s i h A ok o tg=some r:=by
 intro xs;induction xs with
 |nil=>intro i w z;refine ac8 ?_;rw[aW w,aA,cC _ af ai af,c414,aj];show yf GJ [⟨_,[]⟩] ([[]].map some) _=_;rw[qd rfl];show eM (f518 h A ok p ⟨[⟨0,[]⟩]⟩ _) _=_;rw[om];exact z
 |cons x xs G=>intro i w z;refine ac8 ?_;rw[aP w,ak,mh w,me w];cases e:x.Name==s with
  |true=>rw[kH,e] at z;rw[ak,mh w,me w,om];exact z
  |false=>rw[kH,e] at z;rw[aA,aN w af];exact G (i+1) (aH w) z
omit H hF in
theorem o519 {A:List Node} {p:List Int} {s:cn} {tg:List tag} (z:tg.length<=100000):∃w,f519 h A false p s tg=some (A,false,w)/\w.length<=tg.length+1:=by
 have key:=λr=>h519 (h:=h) (p:=p) (s:=s) (A:=A) (ok:=false) (o:=⟨⟨[]⟩,false,[]⟩) z (r:=r) tg 0 rfl
 cases e:tg.find? λx=>x.Name==s with
 |some x=>exact⟨tg,e519 (key _ (by rw[e];exact adM A _ p tg)),af⟩
 |none=>exact⟨tg++[⟨s,p⟩],e519 (key _ (by rw[e];exact o518 A p _ _)),ai⟩
noncomputable abbrev Wt (h:aK) (t:List Template) (s:cn) (p:List Int) (A:List Node) (mp:List (cn×List Int)):Option (Bool×List Node×List (cn×List Int)):=
 AD mp s (λy=>eM (JM y p h.Types h.bC t A mp) λa b c=>some (a,b,c)) (AT (x6 mp s p) λm=>eM (vQ p 0 h.Types h.bC t A m) λa b c=>some (a,b,c))
omit H hF in
theorem Un:∀(k:Nat) (p:List Int) (t:Int),DS k p++[⟨t,[]⟩]=wI k p t
 |_,[],_=>rfl
 |k,f::p,t=>by rw[wI,<-Un (k+1) p t];rfl
omit H hF in
theorem und_chn (p:List Int) (t:Int):vz p ⟨[⟨t,[]⟩]⟩=sV p t:=aU FSt.mk (Un 0 p t)
theorem s_tag {A:List Node} (hA:Can T F ⟨A⟩) {s:cn} {p:List Int} (hp:iX F p) (M6:p.length<=200) (hn:A.length<=900000) (t:List Template) {tg:List tag} {mp:List (cn×List Int)} (hr:AR F tg mp) (hl:tg.length<=10000):
  (∃B z We,f519 h A true p s tg=some (B,true,z)/\Wt h t s p A mp=some (true,B,We)/\Can T F ⟨B⟩/\B.length<=A.length+402/\AR F z We/\z.length<=tg.length+1/\Sem T F sb (λC w=>oW C p=some (w s)) A mp B We)\/
  (∃B z We,f519 h A true p s tg=some (B,false,z)/\Wt h t s p A mp=some (false,A,We)/\z.length<=tg.length+1/\Il T F sb (λC w=>oW C p=some (w s)) A mp):=by
 have key:=λr=>h519 (h:=h) (p:=p) (s:=s) (A:=A) (ok:=true) (o:=⟨⟨[]⟩,false,[]⟩) af (r:=r) tg 0 rfl
 have uG:0<T:=by have:=hA.go.tp 0 hA.ne;omega
 have I:=hr.get s;cases e:tg.find? λx=>x.Name==s with
 |some x=>
  rw[e] at I;obtain⟨o1,o2⟩:=hr.ok x (lR e);rcases s_eq H hF hA o1 hp af af hn t tg mp with⟨B,R,S,L,j4,N⟩|⟨B,R,S,L⟩
  .refine .inl ⟨B,tg,mp,e519 (key _ (by rw[e];exact R)),by unfold Wt;rw[zQ I,om,S],L,by omega,hr,by omega,λC w K=>⟨λ⟨a,b,c⟩=>(N.iff C w K).1 ⟨a,b,w s,b s _ I,c⟩,λx=> ?_⟩,N.ex⟩;obtain⟨a,b,k,k1,k2⟩:=(N.iff C w K).2 x;rw[b s _ I] at k1;cases k1;exact⟨a,b,k2⟩
  .exact .inr ⟨B,tg,mp,e519 (key _ (by rw[e];exact R)),by unfold Wt;rw[zQ I,om,S],by omega,λC w a b c d=>L C w a b c ⟨w s,c s _ I,d⟩⟩
 |none=>
  rw[e] at I;have O:∀C,Can T F C->(Jf sb p ⟨[⟨0,[]⟩]⟩ C↔∃k,oW C p=some k):=λC K=>by show Le sb (vz p _) C↔_;rw[und_chn,Oi H.hv.hm.to hp ⟨jL 0,af⟩ K];refine⟨λ⟨k,a,_⟩=>⟨k,a⟩,λ⟨k,a⟩=>⟨k,a,?_⟩⟩;have:=K.go.tp _ (K.Ms (Cl (λi _=>K.wT i) _ 0 _ .root a));exact H.hv.hm.to.top this.1 this.2
  have V:∀C w,Tg C w (x6 mp s p)↔Tg C w mp/\oW C p=some (w s):=λC w=>by
   refine⟨λx=>⟨λu q G=>x u q ?_,x s p (by rw[yt,aB rfl])⟩,λ⟨x,y⟩ u q G=> ?_⟩
   .rw[yt,az (λU=>by subst U;rw[I] at G;cases G)];exact G
   .rw[yt] at G;split at G
    .rename_i U;cases G;rw[U];exact y
    .exact x u q G
  rcases ad1 H hF hA (ty:=0) ⟨af,af⟩ hp af t (tg++[⟨s,p⟩]) with⟨B,R,S,L,j4,N⟩|⟨B,R,S,L⟩
  .refine .inl ⟨B,_,_,e519 (key _ (by rw[e];exact R)),by unfold Wt;rw[zP I,Cw,om,S],L,by omega,hr.snoc e hp M6,by simp,λC w K=> ?_,λ⟨w,h0⟩=> ?_⟩
   .rw[V];exact⟨λ⟨a,b,c⟩=>⟨N.least C K a ((O C K).2 ⟨_,c⟩),b,c⟩,λ⟨a,b,c⟩=>⟨Le.trans H.hv.hm.to N.l a,b,c⟩⟩
   .obtain⟨k,hk⟩:=(O _ L).1 N.r;obtain⟨ρ',h1⟩:=Tg.up hA L N.l h0;refine⟨λu=>if u=s then k else ρ' u,(V _ _).2 ⟨λu q G=> ?_,by simp only[ia];exact hk⟩⟩;simp only[];rw[az (λU=>by subst U;rw[I] at G;cases G)];exact h1 u q G
  .exact .inr ⟨B,_,_,e519 (key _ (by rw[e];exact R)),by unfold Wt;rw[zP I,Cw,om,S],by simp,λC w a b c d=>L C a b ((O C a).2 ⟨_,d⟩)⟩
end
