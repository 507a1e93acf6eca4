/- Build. -/
import Derived.Test.YtacapiamkgkkjaaGreatDoorClUc
import Derived.Test.YtacapiamkgkkjaaGreatDoorClXq
set_option linter.all false
open Int (toNat)
open List (length replicate)
namespace Go.Proofs.YtacapiamkgkkjaaGreatDoor.cl.pf
open Go Go.AM
structure Eqt (T F:Nat) (sb:Int->Int->Prop) (A:FSt) (p q:List Int) (f:FSt):Prop where
 can:Can T F f
 l:Le sb A f
 at_:∃k,FD f p=some k/\FD f q=some k
 least:∀C,Can T F C->Le sb A C->(∃k,FD C p=some k/\FD C q=some k)->Le sb f C
def Eqt.uniq {T F:Nat} {sb:Int->Int->Prop} (hT:TO T sb) {A:FSt} {p q:List Int} {f g:FSt} (w:Eqt T F sb A p q f) (z:Eqt T F sb A p q g):f=g:=
 Le.anti hT w.can z.can (w.least g z.can z.l z.at_) (z.least f w.can w.l w.at_)
structure Emb (T F:Nat) (l:List Node) (s:Nat) (B:FSt):Prop where
 can:Can T F B
 get:∀i,(hi:i<B.az.length)->l[i+s]? =some (O8 s B.az[i])
section
variable {T F:Nat} {l:List Node} {s:Nat} {B:FSt} (h:Emb T F l s B)
include h
theorem Emb.lt {i:Nat} (w:i<B.az.length):i+s<l.length:=(bP.1 (h.get i w)).1
theorem Emb.sc {i:Nat} (w:i<B.az.length):(lG l).sc (i+s)=(kY B i).map λp=>(p.1,p.2+s):=by rw[My (h.lt w),(bP.1 (h.get i w)).2,vW w];exact Xe (h.can.ao (cG w))
theorem Emb.ty {i:Nat} (w:i<B.az.length):(lG l).ty (i+s)=sU B i:=by rw[RU (h.lt w),(bP.1 (h.get i w)).2,zO w];rfl
theorem Emb.Zc {sb:Int->Int->Prop} {C:FSt} {G m:Nat->Nat} (z:∀i,i<B.az.length->m (i+s)=G i) (I:HF sb (qe B) 0 (qe C) 0 G) {i:Nat} (w:i<B.az.length):
  sb ((lG l).ty (i+s)) ((qe C).ty (m (i+s)))/\∀p∈(lG l).sc (i+s),(p.1,m p.2)∈(qe C).sc (m (i+s)):=by
 have:=I.2 i (h.can.Tk w);rw[z i w,h.ty w,h.sc w];refine⟨this.1,λp hp=> ?_⟩;obtain⟨q,hq,rfl⟩:=aD.1 hp;simp only;rw[z q.2 (h.can.bd i w q hq)];exact this.2 q hq
theorem Emb.part {sb:Int->Int->Prop} (hT:TO T sb) (I:0<l.length) {W:List (Nat×Nat)} {G:Gr} {w:Nat->Nat} (K:XL T F sb (lG l) l.length W G w) (L:w s=w 0):
  HF sb (qe B) 0 (qe (nh G l.length (w 0))) 0 (λi=>(kC G l.length (w 0)).idxOf (w (i+s))):=by
 refine K.part hT I (A:=qe B) (s:=0) (e:=λi=>i+s) (λi z=> ?_) (by simpa using L);have z:=h.can.rlt z;exact⟨h.lt z,h.ty z,h.sc z⟩
end
def uo (A B D:FSt):List Node:=A.az.map (O8 0)++B.az.map (O8 A.az.length)++D.az.map (O8 (A.az.length+B.az.length))
def acY {T F:Nat} {sb:Int->Int->Prop} {U:Gr} {n:Nat} {W:List (Nat×Nat)} {G:Gr} {z:Nat->Nat} (w:XL T F sb U n W G z) (I:0<n):(nh G n (z 0)).az.length<=n:=by rw[Jb];have:=vf w.go.bd (w.lt 0 I);exact x4 this.nd this.lt
section
variable {T F:Nat} {A B D:FSt} (hA:Can T F A) (hB:Can T F B) (hD:Can T F D)
theorem P5:(uo A B D).length=A.az.length+B.az.length+D.az.length:=by simp[uo];omega
include hA in
theorem acU:Emb T F (uo A B D) 0 A:=⟨hA,λi w=>by
 unfold uo
 rw[ew,eX (by simpa using w),dP,lX,aN w];rfl⟩
include hB in
theorem acV:Emb T F (uo A B D) A.az.length B:=⟨hB,λi w=>by
 unfold uo
 rw[ew,fD ai,bC,lR,eX (by simpa using w),dP,aN w];rfl⟩
include hD in
theorem acW:Emb T F (uo A B D) (A.az.length+B.az.length) D:=⟨hD,λi w=>by
 unfold uo
 rw[fD ai,cM,bC,bC,lR,dP,aN w];rfl⟩
theorem M7 {x:Nat} (z:x<(uo A B D).length):(∃i,i<A.az.length/\x=i+0)\/(∃i,i<B.az.length/\x=i+A.az.length)\/∃i,i<D.az.length/\x=i+(A.az.length+B.az.length):=by
 rw[P5] at z;by_cases w:x<A.az.length
 .exact .inl ⟨x,w,rfl⟩
 .by_cases G:x<A.az.length+B.az.length
  .exact .inr (.inl ⟨x-A.az.length,by omega,af⟩)
  .exact .inr (.inr ⟨x-(A.az.length+B.az.length),by omega,af⟩)
include hA hB hD
theorem tri_sol {sb:Int->Int->Prop} {C:FSt} {L G I:Nat->Nat} (R:HF sb (qe A) 0 (qe C) 0 L) (S:HF sb (qe B) 0 (qe C) 0 G) (U:HF sb (qe D) 0 (qe C) 0 I) {i j:Nat} (w:i<B.az.length) (hj:j<D.az.length) (e:G i=I j):
  ∃m,m 0=0/\Te sb (lG (uo A B D)) (uo A B D).length ([(0,A.az.length)]++[(A.az.length,A.az.length+B.az.length)]++[(A.az.length+i,A.az.length+B.az.length+j)]) (qe C) m:=by
 have a0:=hA.ne;have b0:=hB.ne;have d0:=hD.ne;generalize K:(λx=>if x<A.az.length then L x else if x<A.az.length+B.az.length then G (x-A.az.length) else I (x-(A.az.length+B.az.length)))=m;have V:∀i,i<A.az.length->m (i+0)=L i:=λi w=>by rw[<-K];simp only[lX];rw[aB w]
 have N:∀i,i<B.az.length->m (i+A.az.length)=G i:=λi w=>by rw[<-K];simp only;rw[aA af,aB af,lR]
 have O:∀i,i<D.az.length->m (i+(A.az.length+B.az.length))=I i:=λi w=>by rw[<-K];simp only;rw[aA af,aA af,lR]
 have P:=V 0 a0;have Q:=N 0 b0;have r3:=O 0 d0;rw[R.1] at P;rw[eN,S.1] at Q;rw[eN,U.1] at r3;have key:∀x,x<(uo A B D).length->sb ((lG (uo A B D)).ty x) ((qe C).ty (m x))/\∀p∈(lG (uo A B D)).sc x,(p.1,m p.2)∈(qe C).sc (m x):=λx z=>by
  rcases M7 z with⟨i,w,rfl⟩|⟨i,w,rfl⟩|⟨i,w,rfl⟩
  .exact(acU hA).Zc V R w
  .exact(acV hB).Zc N S w
  .exact(acW hD).Zc O U w
 refine⟨m,P,λx z=>(key x z).1,λx z=>(key x z).2,λp hp=> ?_⟩;simp only[fS,dS,aI,nF,pV] at hp;rcases hp with rfl|rfl|rfl
 .rw[Q];exact P
 .show m A.az.length=m (A.az.length+B.az.length);rw[Q,r3]
 .show m (A.az.length+i)=m (A.az.length+B.az.length+j);have e1:=N i w;have e2:=O j hj;rw[jU A.az.length i,jU (A.az.length+B.az.length) j,e1,e2,e]
end
section
variable {T F:Nat} {sb:Int->Int->Prop} (hT:TO T sb) {A:FSt} (hA:Can T F A) {p q:List Int} (hp:∀f∈p,0<=f/\f<(F:Int)) (hq:∀f∈q,0<=f/\f<(F:Int)) (wH:0<T)
include hT hA hp hq wH
abbrev eqnW (A:FSt) (p q:List Int):List (Nat×Nat):=[(0,A.az.length)]++[(A.az.length,A.az.length+(p.length+1))]++[(A.az.length+p.length,A.az.length+(p.length+1)+q.length)]
theorem S5 {C:FSt} (w:Can T F C) (G:Le sb A C) (R:∃k,FD C p=some k/\FD C q=some k):
  ∃m,m 0=0/\Te sb (lG (uo A (sM p 0) (sM q 0))) (uo A (sM p 0) (sM q 0)).length (eqnW A p q) (qe C) m:=by
 obtain⟨V,G⟩:=G;obtain⟨k,I,K⟩:=R;have O:=u6 (T:=T) wH hp ⟨lW 0,af⟩;have P:=u6 (T:=T) wH hq ⟨lW 0,af⟩;have S:=rS p 0;have U:=rS q 0;have top:∀k,FD C p=some k\/FD C q=some k->sb 0 (sU C k):=λk z=>by
  have:sV (kY C) 0 k:=by rcases z with z|z<;>exact Nn (λi _=>w.Aj i) _ 0 _ .root z
  have:=w.go.tp _ (w.rlt this);exact hT.top this.1 this.2
 obtain⟨mp,Q⟩:=(ZN hT hp ⟨lW 0,af⟩ w).2 ⟨k,I,top k (.inl I)⟩;obtain⟨mq,eq⟩:=(ZN hT hq ⟨lW 0,af⟩ w).2 ⟨k,K,top k (.inr K)⟩;have L:=EE O w Q (π:=p) (k:=p.length) (by have:=Jd (π:=p) (t:=0) p.length (aW _);rwa[gw] at this);have N:=EE P w eq (π:=q) (k:=q.length) (by have:=Jd (π:=q) (t:=0) q.length (aW _);rwa[gw] at this);rw[I] at L;rw[K] at N;have:=tri_sol hA O P G Q eq (i:=p.length) (j:=q.length) af af (fB (L.symm.trans N));rw[S] at this;exact this
theorem tri_eqt {G:Gr} {z:Nat->Nat} (w:XL T F sb (lG (uo A (sM p 0) (sM q 0))) (uo A (sM p 0) (sM q 0)).length (eqnW A p q) G z):
  Eqt T F sb A p q (nh G (uo A (sM p 0) (sM q 0)).length (z 0)):=by
 have L:=u6 (T:=T) wH hp ⟨lW 0,af⟩;have N:=u6 (T:=T) wH hq ⟨lW 0,af⟩;have P:=rS p 0;have lq:=rS q 0;have I:0<(uo A (sM p 0) (sM q 0)).length:=by rw[P5];have:=hA.ne;omega
 have Q:z 0=z A.az.length:=w.Zc.eq (0,A.az.length) ai;have q1:z A.az.length=z (A.az.length+(p.length+1)):=w.Zc.eq (A.az.length,A.az.length+(p.length+1)) ai;have q2:z (A.az.length+p.length)=z (A.az.length+(p.length+1)+q.length):=w.Zc.eq (A.az.length+p.length,A.az.length+(p.length+1)+q.length) ai;have K:=w.can I;have m1:=(acU hA).part hT I w (s:=0) rfl;have m2:=(acV L).part hT I w Q.symm;have m3:=(acW (D:=sM q 0) N).part hT I w (by rw[P,<-q1,Q]);have R:=EE L K m2 (π:=p) (k:=p.length) (by have:=Jd (π:=p) (t:=0) p.length (aW _);rwa[gw] at this);have S:=EE N K m3 (π:=q) (k:=q.length) (by have:=Jd (π:=q) (t:=0) q.length (aW _);rwa[gw] at this);refine⟨K,⟨_,m1⟩,⟨_,R,?_⟩,λC O V h2=> ?_⟩
 .rw[S,P,jU q.length,jU p.length A.az.length,q2]
 .obtain⟨m,U,hs⟩:=S5 hT hA hp hq wH O V h2;exact w.le hT I O hs U
end
section
variable {h:aU} {T F:Nat} {sb:Int->Int->Prop} (H:HM h T sb) {A:FSt} (hA:Can T F A) {p q:List Int} (hp:∀f∈p,0<=f/\f<(F:Int)) (hq:∀f∈q,0<=f/\f<(F:Int)) (wH:0<T) (hF:F<=300) (hn:A.az.length+(p.length+1)+(q.length+1)<=1000000)
include H hA hp hq wH hF hn
theorem c438g:(∃f,f438 h A p q=some (f,true)/\Eqt T F sb A p q f/\f.az.length<=A.az.length+(p.length+1)+(q.length+1))\/
  (f438 h A p q=some (⟨[]⟩,false)/\∀C,Can T F C->Le sb A C->(∃k,FD C p=some k/\FD C q=some k)->False):=by
 have cp:=u6 (T:=T) wH hp ⟨lW 0,af⟩;have cq:=u6 (T:=T) wH hq ⟨lW 0,af⟩;have lp:=rS p 0;have lq:=rS q 0;have hl:=P5 (A:=A) (B:=sM p 0) (D:=sM q 0);have ha0:=hA.ne;have a1:f442 A.az h.Types h.bN [] [] []=some ((),ids 0 A.az.length,A.az.map (·.ee),A.az.map λx=>yA 0 x.cu):=by rw[ZH (fr:=0) rfl rfl rfl af (hA.small af af)];simp
 have a2:f442 (sM p 0).az h.Types h.bN (ids 0 A.az.length) (A.az.map (·.ee)) (A.az.map λx=>yA 0 x.cu)=
   some ((),ids 0 (A.az.length+(p.length+1)),A.az.map (·.ee)++(sM p 0).az.map (·.ee),(A.az.map λx=>yA 0 x.cu)++(sM p 0).az.map λx=>yA A.az.length x.cu):=by
  rw[ZH (fr:=A.az.length) (qD _ _) ai ai af (cp.small af af),lp];have:=HW 0 A.az.length (p.length+1);rw[eN] at this;rw[this]
 have a3:f442 (sM q 0).az h.Types h.bN (ids 0 (A.az.length+(p.length+1))) (A.az.map (·.ee)++(sM p 0).az.map (·.ee)) ((A.az.map λx=>yA 0 x.cu)++(sM p 0).az.map λx=>yA A.az.length x.cu)=
   some ((),ids 0 (uo A (sM p 0) (sM q 0)).length,(uo A (sM p 0) (sM q 0)).map (·.ee),(uo A (sM p 0) (sM q 0)).map (·.cu)):=by
  rw[ZH (fr:=A.az.length+(p.length+1)) (qD _ _) (by simp[lp]) (by simp[lp]) af (cq.small af af),lq];have:=HW 0 (A.az.length+(p.length+1)) (q.length+1);rw[eN] at this;rw[this,hl,lp,lq];unfold uo;simp[O8,lY,lp]
 generalize Q:uo A (sM p 0) (sM q 0)=l at *;have J0:JI T (AO F l.length) sb (lG l) l.length [] [] (ids 0 l.length) (l.map (·.ee)) (l.map (·.cu)) id (λ_=>0):=by
  have key:∀x,(G:x<l.length)->(0<=l[x].ee/\l[x].ee<(T:Int))/\AO F l.length l[x].cu:=by
   have g:∀(s:Nat) (B:FSt),Emb T F l s B->(z:s+B.az.length<=l.length)->∀i,(L:i<B.az.length)->(0<=(l[i+s]'(by omega)).ee/\(l[i+s]'(by omega)).ee<(T:Int))/\AO F l.length (l[i+s]'(by omega)).cu:=λs B E z i L=>by rw[(bP.1 (E.get i L)).2];show(0<=(B.az[i]).ee/\(B.az[i]).ee<(T:Int))/\AO F l.length (yA s (B.az[i]).cu);exact⟨E.can.tyr (cG L),(E.can.ao (cG L)).sh af⟩
   intro x G;have U:=G;rw[<-Q] at U;rcases M7 U with⟨i,L,e⟩|⟨i,L,rfl⟩|⟨i,L,rfl⟩
   .have e:x=i:=e;subst e;exact g 0 A (Q▸acU hA) af _ L
   .exact g _ _ (Q▸acV cp) af i L
   .exact g _ _ (Q▸acW cq) af i L
  refine JI.init H.to.refl rfl ai ai (λx G=> ?_) (λx G=> ?_) (λx _=>rfl) (λx _=>rfl)
  .rw[jY G];exact(key x G).1
  .rw[jY G];exact(key x G).2
 have R:l.length *F<=400000000:=by have:=nU (by omega:l.length<=1000000) hF;omega
 have hbd:Bd (lG l).sc l.length:=λx G r S=>by rw[My G] at S;obtain⟨a,ha,rfl⟩:=aD.1 S;have:=J0.ao x G;rw[jY G] at this;have:=(this.ok a ha).2;show a.To.toNat<_;omega
 have w:∀C,Can T F C->Le sb A C->(∃k,FD C p=some k/\FD C q=some k)->∃m,Te sb (lG l) l.length (eqnW A p q) (qe C) m:=λC K O P=>by obtain⟨m,_,z⟩:=S5 H.to hA hp hq wH K O P;rw[Q] at z;exact⟨m,z⟩
 have e0:(0:Int)=((0:Nat):Int):=rfl;have w1:((ids 0 A.az.length).length:Int)=(A.az.length:Int):=by rw[qD]
 have w2:((ids 0 (A.az.length+(p.length+1))).length:Int)=((A.az.length+(p.length+1):Nat):Int):=by rw[qD]
 have v1:IntKind.wrap .i64 ((A.az.length:Int)+(p.length:Int))=((A.az.length+p.length:Nat):Int):=by rw[oz af af];omega
 have v2:IntKind.wrap .i64 (((A.az.length+(p.length+1):Nat):Int)+(q.length:Int))=((A.az.length+(p.length+1)+q.length:Nat):Int):=by rw[oz af af];omega
 rcases c443 H af (by omega:0<l.length) (by omega:A.az.length<l.length) R J0 with⟨p1,t1,r1,rep1,d1,V,J1⟩|⟨⟨p1,t1,r1,V⟩,I⟩
 .rcases c443 H af (by omega:A.az.length<l.length) (by omega:A.az.length+(p.length+1)<l.length) R J1 with⟨p2,t2,r2,rep2,d2,j2,J2⟩|⟨⟨p2,t2,r2,j2⟩,I⟩
  .rcases c443 H af (by omega:A.az.length+p.length<l.length) (by omega:A.az.length+(p.length+1)+q.length<l.length) R J2 with⟨p3,t3,r3,rep3,d3,j3,N⟩|⟨⟨p3,t3,r3,j3⟩,I⟩
   .obtain⟨p4,g⟩:=c444 (TL:=h.Types) (FL:=h.bN) (d:=d3) N.la N.lt N.ao N.pi.rl N.pi.rr af af (by omega:0<l.length) N.pi;have hU:=N.uni hbd;have hz:=acY hU af;have he:=tri_eqt H.to hA hp hq wH (by rw[Q];exact hU);rw[Q] at he;refine .inl ⟨_,e438 ?_,he,af⟩;rw[e425 rfl,ak,Qz af,ak,ak,Qz af,ak,a1,cO,a2,cO,a3,cO,w1,w2,v1,v2,e0,V,cO,cond_neg (by rfl),j2,cO,cond_neg (by rfl),j3,cO,cond_neg (by rfl),g,cO]
   .refine .inr ⟨e438 ?_,λC K O P=> ?_⟩
    .rw[e425 rfl,ak,Qz af,ak,ak,Qz af,ak,a1,cO,a2,cO,a3,cO,w1,w2,v1,v2,e0,V,cO,cond_neg (by rfl),j2,cO,cond_neg (by rfl),j3,cO,cond_pos (by rfl)]
    .obtain⟨m,z⟩:=w C K O P;exact I _ m K.Qd z
  .refine .inr ⟨e438 ?_,λC K O P=> ?_⟩
   .rw[e425 rfl,ak,Qz af,ak,ak,Qz af,ak,a1,cO,a2,cO,a3,cO,w1,w2,v1,v2,e0,V,cO,cond_neg (by rfl),j2,cO,cond_pos (by rfl)]
   .obtain⟨m,z⟩:=w C K O P;exact I _ m K.Qd ⟨z.ty,z.ar,λr S=>z.eq r (cT _ S)⟩
 .refine .inr ⟨e438 ?_,λC K O P=> ?_⟩
  .rw[e425 rfl,ak,Qz af,ak,ak,Qz af,ak,a1,cO,a2,cO,a3,cO,w1,w2,v1,v2,e0,V,cO,cond_pos (by rfl)]
  .obtain⟨m,z⟩:=w C K O P;exact I _ m K.Qd ⟨z.ty,z.ar,λr S=>z.eq r (cT _ (cT _ S))⟩
end
end Go.Proofs.YtacapiamkgkkjaaGreatDoor.cl.pf
namespace Go.Proofs.YtacapiamkgkkjaaGreatDoor.cl.pf
open Go Go.AM
def V8:List Int->Nat->List (List cB)->Nat×List (List cB)
 |[],n,w=>(n,w)
 |f::z,n,w=>match fa (w.getD n []) f with
  |some a=>V8 z a.To.toNat w
  |none=>V8 z w.length (w.set n (w.getD n []++[⟨f,(w.length:Nat)⟩])++[[]])
def zip0:∀{w:List Node} {G:List (List cB)},w.length=G.length->(∀x∈w,x.ee=0)->List.zipWith FA w G=G.map (Node.mk 0)
 |[],[],_,_=>rfl
 |x::w,y::G,I,h=>by rw[List.zipWith_cons_cons,bu,zip0 (by simpa using I) λz K=>h z (dF _ K)];show(⟨x.ee,y⟩:Node)::_=_;rw[h x ai]
section
variable {F:Nat} {A B:List Int} (hA:∀f∈A,0<=f/\f<(F:Int)) (hB:∀f∈B,0<=f/\f<(F:Int)) (hAl:A.length<=1000) (hBl:B.length<=1000) (hF:F<=1000)
include hB hAl hBl hF in
theorem h553 {o4:FSt}:∀(k i n:Nat) (z:List (List cB)) (w:List Node),B.length=i+k->SI F A B n i z->w.length=z.length->(∀x∈w,x.ee=0)->
  zN B (n:Int) (i:Int) o4 w (z.map some)=some ((((V8 (B.drop i) n z).1:Nat):Int),(V8 (B.drop i) n z).2.map (Node.mk 0))/\SI F A B (V8 (B.drop i) n z).1 B.length (V8 (B.drop i) n z).2:=by
 intro k;induction k with
 |zero=>intro i n z w hi I O R;have e:i=B.length:=af;subst e;rw[rA];refine⟨abP ?_,I⟩;rw[cond_neg (by rw[aS];omega)];show wh FA _ _ _=_;rw[ox O,zip0 O R];rfl
 |succ k ih=>
  intro i n z w hi I O R;have K:=I.nlt;have hIle:=I.le;have G:i<B.length:=af;have hlen:=(I.aw n K).len;have S:(z.map (Node.mk 0))[n]? =some ⟨0,z.getD n []⟩:=by rw[dP,aN K,bq,aN K];rfl
  rw[jg G]
  have pre:∀r,(bif(!(fr (z.getD n []) B[i]).2) then(
    check ((length w+length [(Node.mk 0 ([]:List cB))]) *32<=140737488355328/\length w+length [(Node.mk 0 ([]:List cB))]<=4611686018427387904) (
    Ah (z.map some++[some []]) λU=>
    check (0<=(n:Int)/\toNat (n:Int)<length (w++[(Node.mk 0 ([]:List cB))])) (
    U5 U (toNat (n:Int)) λL P=>
    bB B (i:Int) λN=>
    check ((length L+length [(cB.mk N ((length w:Int)))]) *16<=140737488355328/\length L+length [(cB.mk N ((length w:Int)))]<=4611686018427387904) (
    check (0<=(n:Int)/\toNat (n:Int)<length (w++[(Node.mk 0 ([]:List cB))])) (
    check ((toNat (n:Int))<length P) (Ah (List.set P (toNat (n:Int)) (some (L++[(cB.mk N ((length w:Int)))]))) λV=>
    zN B ((length w:Int)) ((i+1:Nat):Int) o4 (w++[(Node.mk 0 ([]:List cB))]) V)))))) else zN B (fr (z.getD n []) B[i]).1 ((i+1:Nat):Int) o4 w (z.map some))=some r->zN B (n:Int) (i:Int) o4 w (z.map some)=some r:=λr hr=>by
   refine abP ?_;rw[bQ af,cond_pos (by rw[bz];omega),cQ G];show wh FA _ _ _=_;rw[ox O,zip0 O R,c476 S (by show(z.getD n []).length<=_;omega),ak];exact hr
  unfold V8;cases e:fa (z.getD n []) B[i] with
  |some a=>
   obtain⟨h1,h2⟩:=I.go hB G e;obtain⟨g1,g2⟩:=ih (i+1) a.To.toNat z w af h2 O R;refine⟨pre _ ?_,g2⟩;unfold fr;rw[e];simp only[];rw[cond_neg (by rfl)]
   have:((a.To.toNat:Nat):Int)=a.To:=af
   rw[this] at g1;exact g1
  |none=>
   have I2:=I.new hB G e;obtain⟨g1,g2⟩:=ih (i+1) z.length _ (w++[⟨0,[]⟩]) af I2 (by simp[O]) λx Q=>by
    rcases bA.1 Q with Q|Q
    .exact R x Q
    .simp at Q;subst Q;rfl
   refine⟨pre _ ?_,g2⟩;have em:z.map some++[some []]=(z++[[]]).map some:=by rw[bZ];rfl
   have e1:(z++[[]]).getD n []=z.getD n []:=ze K;have e2:((z++[[]]).map some).set n (some (z.getD n []++[(⟨B[i],(z.length:Nat)⟩:cB)]))=(z.set n (z.getD n []++[(⟨B[i],(z.length:Nat)⟩:cB)])++[[]]).map some:=by rw[<-pY,yC _ _ K]
   unfold fr;rw[e];simp only[];rw[cond_pos (by rfl),cH _ af ai af,B7,em,AY aH,aV,MQ aH,cQ G,e1,cH _ af ai af,bU ⟨af,aH⟩,bU aH,List.set_set,B7,O,e2];exact g1
theorem ZM {p:List Int} {i:Nat} (L:i<p.length):(yy (p.take i)).set i [⟨p[i],((i+1:Nat):Int)⟩]++[[]]=yy (p.take (i+1)):=by
 have N:(p.take i).length=i:=by rw[fC];omega
 have O:(p.take (i+1)).length=i+1:=by rw[fC];omega
 have w:(yy (p.take i)).length=i+1:=by simp[yy,N]
 have c2:(yy (p.take (i+1))).length=i+2:=by simp[yy,O]
 apply kT;intro j;have G:∀(k j:Nat),j<k+1->k<=p.length->(yy (p.take k))[j]? =some (if h:j<k then[⟨p.getD j 0,((j+1:Nat):Int)⟩] else[]):=λk j Q R=>by
  have P:(p.take k).length=k:=by rw[fC];omega
  have I:j<(yy (p.take k)).length:=by simp[yy,P];omega
  rw[aN I];congr 1;have e:(yy (p.take k))[j]=(yy (p.take k)).getD j []:=by rw[bq,aN I];rfl
  rw[e];by_cases h:j<k
  .rw[BW af,iG h,List.getElem_take,bq,aN (by omega:j<p.length)];rfl
  .rw[Ed af,rO h]
 by_cases K:j<i+1
 .rw[eX (by simp[w];omega),ny,G (i+1) j af af,iG K];by_cases z:i=j
  .subst z;rw[aB rfl,aB af,bq,aN L];rfl
  .rw[aA z,G i j af af,iG af]
 .by_cases z:j=i+1
  .subst z;rw[fD (by simp[w]),G (i+1) (i+1) af af,rO af];simp[w]
  .rw[gu (by simp[w];omega),gu af]
theorem grw_ch {p:List Int}:∀(k i:Nat),p.length=i+k->V8 (p.drop i) i (yy (p.take i))=(p.length,yy p):=by intro k;induction k with
 |zero=>intro i G;have e:i=p.length:=af;subst e;rw[rA,gw];rfl
 |succ k I=>
  intro i G;have w:i<p.length:=af;have K:(p.take i).length=i:=by rw[fC];omega
  have z:(yy (p.take i)).length=i+1:=by simp[yy,K]
  rw[jg w];unfold V8;have e:(yy (p.take i)).getD i []=[]:=Ed af;rw[e];show V8 _ _ _=_;rw[z,dS,ZM w];exact I (i+1) af
include hA hB hAl hBl hF
theorem aam {n:Nat} {z:List (List cB)} (I:SI F A B n B.length z) {V a:Nat} (R:V=min A.length n) (ha:a=max A.length n) {G:Gr} {K:Nat->Nat} (N:XL 1 F sb0 (lG (z.map (Node.mk 0))) z.length [(V,a)] G K):
  Shr F A B (nh G z.length (K 0)):=by
 have hIl:=I.len;have P:0<z.length:=af;have hc:=N.can P;have U:∀x,x<z.length->(lG (z.map (Node.mk 0))).sc x=(z.getD x []).map λa=>(a.bM,a.To.toNat):=λx L=>by rw[My (by simpa using L),kM,bq,aN L];rfl
 have Yr:∀x,x<z.length->(lG (z.map (Node.mk 0))).ty x=0:=λx L=>by rw[RU (by simpa using L),kM]
 have q:K A.length=K n:=by
  have:=N.Zc.eq (V,a) ai;simp only at this;by_cases h:A.length<=n
  .have e1:V=A.length:=af;have e2:a=n:=af;rw[<-e1,<-e2];exact this
  .have e1:V=n:=af;have e2:a=A.length:=af;rw[<-e1,<-e2];exact this.symm
 have O:∀{Q:List Int} {x y:Nat},x<z.length->sV G.sc (K 0) (K x)->XJ z x Q y->D6 (qe (nh G z.length (K 0))) ((kC G z.length (K 0)).idxOf (K x)) Q=some ((kC G z.length (K 0)).idxOf (K y)):=by intro Q;induction Q with
  |nil=>intro x y _ _ h;cases h;rfl
  |cons f Q ih=>
   intro x y L hr h;obtain⟨w,hw,h⟩:=h;have hm:(f,w)∈(lG (z.map (Node.mk 0))).sc x:=by rw[U x L];exact aD.2 ⟨_,hw,ai⟩
   have S:=N.Zc.ar x L _ hm;have hwl:w<z.length:=by have:=((I.aw x L).ok _ hw).2;simp only at this;omega
   have hx2:=(Ib N.go.bd (N.lt 0 P)).2 hr;have hx3:=AT (vp hx2);have hm3:(f,(kC G z.length (K 0)).idxOf (K w))∈kY (nh G z.length (K 0)) ((kC G z.length (K 0)).idxOf (K x)):=by rw[hx3];exact aD.2 ⟨_,S,rfl⟩
   show(match Cs (kY _ _) f with|some k=>D6 _ k Q|none=>none)=_;rw[(Cf (hc.Aj _)).2 hm3];exact ih hwl (hr.step S) h
 have i0:(kC G z.length (K 0)).idxOf (K 0)=0:=vF (vf N.go.bd (N.lt 0 P)).nd (x7 N.go.bd (N.lt 0 P));have pA:=O P .root I.pa;have pB:=O P .root I.pb;rw[i0,q] at pA;rw[i0,gw] at pB;refine⟨hc,⟨_,pA,pB⟩,λC T' sb hT hC hk=> ?_⟩;obtain⟨k,k1,k2⟩:=hk;obtain⟨m,m0,m1,m2,m3⟩:=I.dy C T' k hC k1 k2;rw[Nl k2] at m2;refine le_zero hT hc hC ?_;have hl:(replicate C.az.length (0:Int)).length=C.az.length:=ai;have esc:(qe (FE C (replicate C.az.length 0))).sc=(qe C).sc:=Vm hl;have ety:∀y,(qe (FE C (replicate C.az.length 0))).ty y=0:=λy=>by
  show sU _ y=0;by_cases hy:y<C.az.length
  .rw[acG hl hy,bq,kN,aB hy];rfl
  .unfold sU;rw[gu (by rw[Cb hl];omega)]
 refine N.le to0 P (ZJ hC) (m:=m) ⟨λx L=>⟨Yr x L,ety _⟩,λx L p hp=> ?_,λp hp=> ?_⟩ m0
 .rw[U x L] at hp;obtain⟨a,ha,rfl⟩:=aD.1 hp;rw[esc];exact m3 x L a ha
 .simp only[bS] at hp;subst hp;simp only;by_cases h:A.length<=n
  .rw[R,ha,wC h,Nat.max_eq_right h,m1,m2]
  .rw[R,ha,Nat.min_eq_right af,Nat.max_eq_left af,m1,m2]
theorem c544:∃f,f544 A B=some f/\Shr F A B f/\f.az.length<=A.length+1+B.length:=by
 have a1:f553 A [⟨0,[]⟩] [some []]=some ((A.length:Int),(yy A).map (Node.mk 0)):=by have:=(h553 (F:=F) (A:=[]) (B:=A) hA ai hAl hF (o4:=⟨[]⟩) A.length 0 0 [[]] [⟨0,[]⟩] af (SI.init (A:=[]) ai) rfl ai).1;have e:=grw_ch (p:=A) A.length 0 af;have e0:yy (A.take 0)=[[]]:=rfl;rw[e0] at e;rw[e] at this;exact e553 this
 have hcl:(yy A).length=A.length+1:=by simp[yy]
 obtain⟨g1,I⟩:=h553 (F:=F) (A:=A) (B:=B) hB hAl hBl hF (o4:=⟨[]⟩) B.length 0 0 (yy A) ((yy A).map (Node.mk 0)) af (SI.init hA) ai λx L=>by obtain⟨y,_,rfl⟩:=aD.1 L;rfl
 rw[nT] at g1 I;have mm:∀O:List (List cB),(O.map (Node.mk 0)).map (λx=>some x.cu)=O.map some:=λO=>by rw[fk];rfl
 have a2:f553 B ((yy A).map (Node.mk 0)) (((yy A).map (Node.mk 0)).map (λx=>some x.cu))=some ((((V8 B 0 (yy A)).1:Nat):Int),(V8 B 0 (yy A)).2.map (Node.mk 0)):=by rw[mm];exact e553 g1
 generalize hn:(V8 B 0 (yy A)).1=n at *;generalize hz:(V8 B 0 (yy A)).2=w at *;have hIl:=I.len;have hIle:=I.le;have V:=I.nlt;have G:(w.map (Node.mk 0)).length=w.length:=ai;have K:∀x∈w.map (Node.mk 0),AW F (w.map (Node.mk 0)).length x.cu:=λx L=>by obtain⟨i,S⟩:=jJ.1 L;have z:=(bP.1 S).1;rw[G] at z⊢;rw[dP,aN z] at S;have e:Node.mk 0 w[i]=x:=fB S;have:=I.aw i z;rw[bq,aN z] at this;rw[<-e];exact this
 have U:w.length *F<=300000000:=by have:=nU (by omega:w.length<=3000) hF;omega
 have a3:=c449 (n:=w.length) af;have a4:=c450 (n:=w.length) (x:=A.length) (y:=n) af af V;obtain⟨out,ty,ar,rep,d,a5,ho,J⟩:=c451 (F:=F) (l:=w.map (Node.mk 0)) (lo:=min A.length n) (a:=max A.length n) af af (by rw[G];exact U) af af K;have N:∀c,(replicate w.length (0:Int)).getD c 0=0:=λc=>by rw[bq,kN];split<;>rfl
 obtain⟨g,O,a6,hg1,Iq,R⟩:=c453 (F:=F) (l:=w.map (Node.mk 0)) af af K J.pi.len ho J.pi.rl (types:=replicate w.length 0) ai (root:=0) af
 have Q:=W8 to0 K (U:=lG (w.map (Node.mk 0))) (λ_ _=>rfl) (λ_ _=>rfl) J (types:=replicate w.length 0) (λc hc=>by
  rw[N,N,RU hc,kM]
  exact⟨af,rfl,⟨rfl,rfl⟩,λu h1 h2 _=>⟨rfl,af⟩⟩) Iq R
 rw[G] at Q a5 a6;have hs:=aam hA hB hAl hBl hF I rfl rfl Q;have hzz:=acY Q af;refine⟨_,e544 ?_,hs,af⟩;have e0:(0:Int)=((0:Nat):Int):=rfl;rw[ZG,ak,a1,mC,a2,mC,mm];show wh FA _ _ _=_;rw[ox ai,zip0 ai λx L=>by obtain⟨y,_,rfl⟩:=aD.1 L;rfl,G,a3,ak,a4,ak,a5,ak,bU ⟨af,by omega,by omega,af⟩,aV];have P:f453 (w.map (Node.mk 0)) out (replicate w.length 0) 0=_:=a6;rw[P,ak]
end
section
variable {h:aU} {T F:Nat} {sb:Int->Int->Prop} (H:HM h T sb) {A:FSt} (hA:Can T F A) {p q:List Int} (hp:∀f∈p,0<=f/\f<(F:Int)) (hq:∀f∈q,0<=f/\f<(F:Int)) (Ms:p.length<=1000) (hql:q.length<=1000) (wH:0<T) (hF:F<=300) (hn:A.az.length<=900000)
include H hA hp hq Ms hql wH hF hn
theorem Z8:(∃f,f438 h A p q=some (f,true)/\f537 h A p q=some (f,true)/\Can T F f/\f.az.length<=A.az.length+(p.length+1)+(q.length+1))\/
  (f438 h A p q=some (⟨[]⟩,false)/\f537 h A p q=some (⟨[]⟩,false)):=by
 obtain⟨e,e1,G,U⟩:=c544 (F:=F) hp hq Ms hql af;have I:=G.can.up (T':=T) wH;have P:∀f b,f440 h A e=some (f,b)->f537 h A p q=some (f,b):=λf b S=>e537 (by rw[e1,ak,S];rfl)
 rcases c438g H hA hp hq wH hF af with⟨f,K,z,V⟩|⟨K,z⟩<;>rcases c440 H hA I hF af with⟨N,L,w⟩|⟨L,w⟩
 .have:f=N:=Eqt.uniq H.to z ⟨w.can,w.l,(G.le H.to wH w.can).1 w.r,λC O Q R=>w.least C O Q ((G.le H.to wH O).2 R)⟩
  subst this;exact .inl ⟨f,K,P _ _ L,z.can,V⟩
 .exact(w f z.can z.l ((G.le H.to wH z.can).2 z.at_)).elim
 .exact(z N w.can w.l ((G.le H.to wH w.can).1 w.r)).elim
 .exact .inr ⟨K,P _ _ L⟩
end
end Go.Proofs.YtacapiamkgkkjaaGreatDoor.cl.pf
namespace Go.Proofs.YtacapiamkgkkjaaGreatDoor.cl.pf
open Go Go.AM
abbrev jP (F:Nat) (p:List Int):Prop:=∀f∈p,0<=f/\f<(F:Int)
def jP.app {F:Nat} {p q:List Int} (h:jP F p) (w:jP F q):jP F (p++q):=λf z=>(bA.1 z).elim (h f) (w f)
theorem jP.rep {F n:Nat} {a:Int} (h:0<=a/\a<(F:Int)):jP F (replicate n a):=λf w=>by rw[(List.mem_replicate.1 w).2];exact h
structure FH (F:Nat) (tg:List tag) (mp:List (cr×List Int)):Prop where
 get:∀s,getM mp s=(tg.find? λx=>x.Name==s).map (·.Path)
 ok:∀x∈tg,jP F x.Path/\x.Path.length<=200
def FH.nil {F:Nat}:FH F [] []:=⟨λs=>by rw[Ru];rfl,λx w=>by cases w⟩
def FH.snoc {F:Nat} {tg:List tag} {z:List (cr×List Int)} (h:FH F tg z) {s:cr} {p:List Int} (K:(tg.find? λx=>x.Name==s)=none) (hp:jP F p) (I:p.length<=200):FH F (tg++[⟨s,p⟩]) (zo z s p):=by
 refine⟨λu=> ?_,λx w=> ?_⟩
 .rw[Jw,List.find?_append];by_cases e:u=s
  .subst e;rw[aB rfl,K];simp
  .rw[aA e,h.get];cases tg.find? λx=>x.Name==u with
   |some x=>rfl
   |none=>
    have:((⟨s,p⟩:tag).Name==u)=false:=by simpa using λG=>e G.symm
    simp[lU,this]
 .rcases bA.1 w with w|w
  .exact h.ok x w
  .simp at w;subst w;exact⟨hp,I⟩
theorem iy {U V W:Type} (x:Option (U×V×W)):(dU x λa b c=>some (a,b,c))=x:=by cases x with
 |none=>rfl
 |some x=>rfl
section
variable {h:aU} {T F:Nat} {sb:Int->Int->Prop} {cD:Int->Int} {val:Int->Int->Int} (H:HX h T F sb cD val) (hT:T<=1000) (hF:F<=300)
theorem o518 (A:List Node) (p:List Int) (g:FSt) (tg:List tag):f518 h A false p g tg=some (A,false,tg):=e518 (by rw[au])
theorem acn (A:List Node) (p q:List Int) (tg:List tag):f522 h A false p q tg=some (A,false,tg):=e522 (by rw[au])
include H hT in
theorem s517 {A:List Node} {b:Bool} {p:List Int} {s:cr} {tg:List tag} {r:List Node×Bool×List tag} (w:f518 h A b p ⟨[⟨n9 h s,[]⟩]⟩ tg=some r):f517 h A b p s tg=some r:=by have z:=H.tl;refine e517 ?_;rw[c364 _ _ af,ak,ZG,ak];show wh FA [⟨_,[]⟩] ([[]].map some) _=_;rw[ox rfl];show dU (f518 h A b p ⟨[⟨_,[]⟩]⟩ tg) _=_;rw[iy];exact w
include H hT in
theorem LM (A:List Node) (p:List Int) (s:cr) (tg:List tag):f517 h A false p s tg=some (A,false,tg):=s517 H hT (o518 A p _ tg)
include H hF
theorem s_put {A:List Node} (hA:Can T F ⟨A⟩) {g:FSt} (z:Can T F g) {p:List Int} (hp:jP F p) (hn:A.length+(p.length+g.az.length)<=1000000) (t:List Template) (tg:List tag):
  (∃B,f518 h A true p g tg=some (B,true,tg)/\(∀w,Mg p g h.Types h.bN t A w=some (true,B,w))/\Can T F ⟨B⟩/\B.length<=A.length+(p.length+g.az.length))\/
  (∃B,f518 h A true p g tg=some (B,false,tg)/\∀w,Mg p g h.Types h.bN t A w=some (false,A,w)):=by
 have wH:0<T:=by have:=hA.go.tp 0 hA.ne;omega
 have L:=Xy wH af hp z (to_ok z af af);rcases at_same H.hv.hm hA z wH hF hp hn with⟨f,G,I,K⟩|⟨G,I,_⟩
 .refine .inl ⟨f.az,e518 ?_,λw=>e531a ?_,K.can,?_⟩
  .rw[aj,I,ak]
  .rw[show aU.mk h.Types h.bN=h from rfl,G,ak,aj]
  .have:=Zq.size H.hv hA L K;rw[Fy] at this;exact this
 .refine .inr ⟨[],e518 ?_,λw=>e531a ?_⟩
  .rw[aj,I,ak]
  .rw[show aU.mk h.Types h.bN=h from rfl,G,ak,au]
theorem WZ {t:Int} (w:0<=t/\t<(T:Int)):Can T F ⟨[⟨t,[]⟩]⟩:=u6 (T:=T) (F:=F) (π:=[]) (t:=t) af ai w
theorem acH {A:List Node} (hA:Can T F ⟨A⟩) {ty:Int} (I:0<=ty/\ty<(T:Int)) {p:List Int} (hp:jP F p) (hn:A.length+(p.length+1)<=1000000) (t:List Template) (tg:List tag):
  (∃B,f518 h A true p ⟨[⟨ty,[]⟩]⟩ tg=some (B,true,tg)/\(∀w,vz p ty h.Types h.bN t A w=some (true,B,w))/\Can T F ⟨B⟩/\B.length<=A.length+(p.length+1))\/
  (∃B,f518 h A true p ⟨[⟨ty,[]⟩]⟩ tg=some (B,false,tg)/\∀w,vz p ty h.Types h.bN t A w=some (false,A,w)):=by
 rcases s_put H hF hA (WZ H hF I) hp hn t tg with⟨B,z,G,K,L⟩|⟨B,z,G⟩
 .exact .inl ⟨B,z,λw=>e530a (by rw[G,bg]),K,L⟩
 .exact .inr ⟨B,z,λw=>e530a (by rw[G,bg])⟩
include hT in
theorem acJ {A:List Node} (hA:Can T F ⟨A⟩) {s:cr} (I:0<=n9 h s) {p:List Int} (hp:jP F p) (hn:A.length+(p.length+1)<=1000000) (t:List Template) (tg:List tag):
  (∃B,f517 h A true p s tg=some (B,true,tg)/\(∀w,vz p (n9 h s) h.Types h.bN t A w=some (true,B,w))/\Can T F ⟨B⟩/\B.length<=A.length+(p.length+1))\/
  (∃B,f517 h A true p s tg=some (B,false,tg)/\∀w,vz p (n9 h s) h.Types h.bN t A w=some (false,A,w)):=by
 have K:=H.tl
 have:n9 h s<(h.Types.length:Int):=(ON _ _).1
 rcases acH H hF hA (ty:=n9 h s) ⟨I,af⟩ hp hn t tg with⟨B,z,G⟩|⟨B,z,G⟩
 .exact .inl ⟨B,s517 H hT z,G⟩
 .exact .inr ⟨B,s517 H hT z,G⟩
theorem s_eq {A:List Node} (hA:Can T F ⟨A⟩) {p q:List Int} (hp:jP F p) (hq:jP F q) (Ms:p.length<=1000) (hql:q.length<=1000) (hn:A.length<=900000) (t:List Template) (tg:List tag):
  (∃B,f522 h A true p q tg=some (B,true,tg)/\(∀w,Jo p q h.Types h.bN t A w=some (true,B,w))/\Can T F ⟨B⟩/\B.length<=A.length+(p.length+1)+(q.length+1))\/
  (∃B,f522 h A true p q tg=some (B,false,tg)/\∀w,Jo p q h.Types h.bN t A w=some (false,A,w)):=by
 have wH:0<T:=by have:=hA.go.tp 0 hA.ne;omega
 rcases Z8 H.hv.hm hA hp hq Ms hql wH hF hn with⟨f,z,G,I,K⟩|⟨z,G⟩
 .refine .inl ⟨f.az,e522 ?_,λw=>e532a ?_,I,K⟩
  .rw[aj,G,ak]
  .rw[show aU.mk h.Types h.bN=h from rfl,z,ak,aj]
 .refine .inr ⟨[],e522 ?_,λw=>e532a ?_⟩
  .rw[aj,G,ak]
  .rw[show aU.mk h.Types h.bN=h from rfl,z,ak,au]
omit H hF in
theorem h519 {p:List Int} {s:cr} {A:List Node} {ok:Bool} {o:state} {tg:List tag} (I:tg.length<=100000) {r:List Node×Bool×List tag}:∀(xs:List tag) (i:Nat),tg.drop i=xs->
  (match xs.find? λx=>x.Name==s with
   |some x=>f522 h A ok x.Path p tg
   |none=>f518 h A ok p ⟨[⟨0,[]⟩]⟩ (tg++[⟨s,p⟩]))=some r->PU p s i h A ok o tg=some r:=by
 intro xs;induction xs with
 |nil=>intro i w z;refine abI ?_;rw[bp w,au,cH _ af ai af,ZG,ak];show wh FA [⟨_,[]⟩] ([[]].map some) _=_;rw[ox rfl];show dU (f518 h A ok p ⟨[⟨0,[]⟩]⟩ _) _=_;rw[iy];exact z
 |cons x xs G=>intro i w z;refine abI ?_;rw[aT w,aj,mc w,mb w];cases e:x.Name==s with
  |true=>rw[lU,e] at z;rw[aj,mc w,mb w,iy];exact z
  |false=>rw[lU,e] at z;rw[au,aQ w af];exact G (i+1) (aJ w) z
omit H hF in
theorem o519 {A:List Node} {p:List Int} {s:cr} {tg:List tag} (z:tg.length<=100000):∃w,f519 h A false p s tg=some (A,false,w)/\w.length<=tg.length+1:=by
 have key:=λr=>h519 (h:=h) (p:=p) (s:=s) (A:=A) (ok:=false) (o:=⟨⟨[]⟩,false,[]⟩) z (r:=r) tg 0 rfl
 cases e:tg.find? λx=>x.Name==s with
 |some x=>exact⟨tg,e519 (key _ (by rw[e];exact acn A _ p tg)),af⟩
 |none=>exact⟨tg++[⟨s,p⟩],e519 (key _ (by rw[e];exact o518 A p _ _)),ai⟩
noncomputable abbrev U8 (h:aU) (t:List Template) (s:cr) (p:List Int) (A:List Node) (w:List (cr×List Int)):Option (Bool×List Node×List (cr×List Int)):=
 wM w s (λy=>dU (Jo y p h.Types h.bN t A w) λa b c=>some (a,b,c)) (Ah (zo w s p) λm=>dU (vz p 0 h.Types h.bN t A m) λa b c=>some (a,b,c))
theorem s_tag {A:List Node} (hA:Can T F ⟨A⟩) {s:cr} {p:List Int} (hp:jP F p) (Ms:p.length<=200) (hn:A.length<=900000) (t:List Template) {tg:List tag} {L:List (cr×List Int)} (N:FH F tg L) (R:tg.length<=10000):
  (∃B w z,f519 h A true p s tg=some (B,true,w)/\U8 h t s p A L=some (true,B,z)/\Can T F ⟨B⟩/\B.length<=A.length+402/\FH F w z/\w.length<=tg.length+1)\/
  (∃B w z,f519 h A true p s tg=some (B,false,w)/\U8 h t s p A L=some (false,A,z)/\w.length<=tg.length+1):=by
 have key:=λr=>h519 (h:=h) (p:=p) (s:=s) (A:=A) (ok:=true) (o:=⟨⟨[]⟩,false,[]⟩) af (r:=r) tg 0 rfl
 have wH:0<T:=by have:=hA.go.tp 0 hA.ne;omega
 have K:=N.get s;cases e:tg.find? λx=>x.Name==s with
 |some x=>
  rw[e] at K;obtain⟨Q,S⟩:=N.ok x (nJ e);rcases s_eq H hF hA Q hp af af hn t tg with⟨B,G,I,O,P⟩|⟨B,G,I⟩
  .exact .inl ⟨B,tg,L,e519 (key _ (by rw[e];exact G)),by unfold U8;rw[zh K,iy,I],O,by omega,N,af⟩
  .exact .inr ⟨B,tg,L,e519 (key _ (by rw[e];exact G)),by unfold U8;rw[zh K,iy,I],af⟩
 |none=>
  rw[e] at K;rcases acH H hF hA (ty:=0) ⟨af,af⟩ hp af t (tg++[⟨s,p⟩]) with⟨B,G,I,O,P⟩|⟨B,G,I⟩
  .exact .inl ⟨B,_,_,e519 (key _ (by rw[e];exact G)),by unfold U8;rw[zg K,B7,iy,I],O,by omega,N.snoc e hp Ms,ai⟩
  .exact .inr ⟨B,_,_,e519 (key _ (by rw[e];exact G)),by unfold U8;rw[zg K,B7,iy,I],ai⟩
end
