/- The least well-typed feature structure (the reference's Infe. -/
import Derived.Test.YthppjmoncapdfaaGreatDoorClXk
set_option linter.all false
open List (replicate)
namespace Go.Proofs.YthppjmoncapdfaaGreatDoor.cl.pf
open Go Go.AM
def c471 {a b:List Int} (D:a.length=b.length) (hn:a.length<=1000000):f471 a b=some (decide (a=b)):=by
 have key:∀(k i:Nat),a.length=i+k->O4 a b (i:Int)=some (decide (a.drop i=b.drop i)):=by intro k;induction k with
  |zero=>intro i w;refine abW ?_;rw[cond_neg (by rw[bM];omega),mS af,mS af];simp
  |succ k z=>
   intro i w;have l:i<a.length:=af;have q:i<b.length:=af;refine abW ?_;rw[cond_pos (by rw[bF];omega),bR l,bR q,bl af,z (i+1) af,kV l,kV q];by_cases e:a[i]=b[i]
   .rw[cond_neg (by rw[xW];exact e)];simp only[dM,e,gB]
   .rw[cond_pos (by rw[jW];exact e)];simp only[dM,e,false_and,tO]
 exact e471 (key a.length 0 af)
section
variable {h:bQ} {T F:Nat} {sb:Int->Int->Prop} {bV:Int->Int} {val:Int->Int->Int} (H:HV h T F sb bV val) {f:FSt} (hf:Can T F f) (hn:f.aj.length<=100000) (hT:T<=1000) (hF:F<=1000)
def Y1 (sb:Int->Int->Prop) (bV:Int->Int) (val:Int->Int->Int) (old l:List Int) (n:Nat) (a:bX):Prop:=sb (bV a.aS) (l.getD n 0)/\∃t,sb (old.getD n 0) t/\sb t (l.getD n 0)/\sb (val t a.aS) (l.getD a.To.toNat 0)
def UpT (sb:Int->Int->Prop) (N:Nat) (a b:List Int):Prop:=∀n,n<N->sb (a.getD n 0) (b.getD n 0)
include H hf hn hF
theorem Y1.up {old w l:List Int} (z:UpT sb f.aj.length w l) {n:Nat} (q:n<f.aj.length) {a:bX} (L:a∈f.aj[n].bC) (h:Y1 sb bV val old w n a):Y1 sb bV val old l n a:=by obtain⟨D,t,G,I,K⟩:=h;obtain⟨_,N,_⟩:=arcN H hf hn hF q L;exact⟨H.hm.to.trans D (z n q),t,G,H.hm.to.trans I (z n q),H.hm.to.trans K (z _ af)⟩
theorem c477 {tl:List Int} (S:TS T sb bV val f tl) {n:Nat} (w:n<f.aj.length) {a:bX} (ha:a∈f.aj[n].bC):
  (∃G,f477 h (n:Int) a tl=some (true,G)/\TS T sb bV val f G/\UpT sb f.aj.length tl G/\Y1 sb bV val tl G n a)\/
  ((∃G,f477 h (n:Int) a tl=some (false,G))/\∀z,BG sb bV val f z->False):=by
 obtain⟨q,hto,O⟩:=arcN H hf hn hF w ha;obtain⟨t,ht⟩:=eL hto.1;have I:t<f.aj.length:=af;have V:a.To.toNat=t:=af;obtain⟨i1,i2⟩:=H.int a.aS q.1 q.2;have L:n<tl.length:=by rw[S.len];exact w
 have hfl:=H.fl;have r:=S.rg n w;have R:∀z,BG sb bV val f z->sb (bV a.aS) (z n):=λz l=>((l n w).2 _ O).1
 rcases H.hm.mt _ _ r.1 r.2 i2.1 i2.2 with⟨m,m1,m2,N,m4,m5⟩|⟨m,m1,m2,N⟩
 .have S1:=S.raise H w N m4 m5 R;have D:t<(tl.set n m).length:=by rw[S1.len];exact I
  have mr:=H.hm.to.rr N;obtain⟨_,v1,v2⟩:=H.vl m a.aS mr.1 mr.2 q.1 q.2 m4;have r1:=S1.rg t I;have e1:(tl.set n m).getD n 0=m:=by rw[eF,au ⟨rfl,L⟩]
  have U:∀z,BG sb bV val f z->sb (val m a.aS) (z t):=λz l=>by have:=((l n w).2 _ O).2;rw[V] at this;have h2:=S1.dH z l n w;rw[e1] at h2;exact H.hm.to.trans (H.mono _ _ _ q.1 q.2 m4 h2) this
  have up1:UpT sb f.aj.length tl (tl.set n m):=λx K=>by
   rw[eF];by_cases e:n=x
   .rw[au ⟨e,by rw[<-e];exact L⟩,<-e];exact N
   .rw[aq (λh=>e h.1)];exact H.hm.to.refl (S.rg x K).1 (S.rg x K).2
  rcases H.hm.mt _ _ r1.1 r1.2 v2.1 v2.2 with⟨u,u1,u2,u3,u4,u5⟩|⟨u,u1,u2,u3⟩
  .have S2:=S1.raise H I u3 u4 u5 U;have up2:UpT sb f.aj.length (tl.set n m) ((tl.set n m).set t u):=λx K=>by
    rw[eF (tl.set n m)];by_cases e:t=x
    .rw[au ⟨e,by rw[<-e];exact D⟩,<-e];exact u3
    .rw[aq (λh=>e h.1)];exact H.hm.to.refl (S1.rg x K).1 (S1.rg x K).2
   refine .inl ⟨(tl.set n m).set t u,e477 ?_,S2,λx K=>H.hm.to.trans (up1 x K) (up2 x K),?_⟩
   .rw[qF L,wM q.1 af,i1,m2,ak,cond_neg (by rfl),qF L,v1,ak,ht,aP n];dsimp only;rw[qF D,u2,ak,qF D,aP]
   .have:=up2 n w;rw[e1] at this;refine⟨H.hm.to.trans m4 this,m,N,this,?_⟩;rw[V,eF,au ⟨rfl,D⟩];exact u4
  .refine .inr ⟨⟨(tl.set n m).set t u,e477 ?_⟩,λz l=>u3 _ (S1.dH z l t I) (U z l)⟩;rw[qF L,wM q.1 af,i1,m2,ak,cond_neg (by rfl),qF L,v1,ak,ht,aP n];dsimp only;rw[qF D,u2,ak,qF D,aP]
 .refine .inr ⟨⟨tl,e477 ?_⟩,λz l=>N _ (S.dH z l n w) (R z l)⟩;rw[qF L,wM q.1 af,i1,m2,ak,cond_pos (by rfl)]
theorem h441_14 {old:List Int} {o4:FSt} {n:Nat} (z:n<f.aj.length):∀(xs:List bX) (k:Nat) (l:List Int),f.aj[n].bC.drop k=xs->TS T sb bV val f l->UpT sb f.aj.length old l->(∀a∈f.aj[n].bC.take k,Y1 sb bV val old l n a)->
  (∃q,TS T sb bV val f q/\UpT sb f.aj.length old q/\UpT sb f.aj.length l q/\(∀a∈f.aj[n].bC,Y1 sb bV val old q n a)/\∀r,vR old ((n+1:Nat):Int) h f o4 q=some r->vS old (n:Int) f.aj[n].bC (k:Int) h f o4 l=some r)\/
  (vS old (n:Int) f.aj[n].bC (k:Int) h f o4 l=some (⟨[]⟩,false)/\∀τ,BG sb bV val f τ->False):=by
 have hal:=(hf.ao (bq z)).len;intro xs;induction xs with
 |nil=>intro k l w S O N;rw[gx (iF w)] at N;refine .inl ⟨l,S,O,λx G=>H.hm.to.refl (S.rg x G).1 (S.rg x G).2,N,λr L=>M3 ?_⟩;rw[bp w,az,bl af];exact L
 |cons a xs ih=>
  intro k l w S O N;have ha:=aH (bB w);rcases c477 H hf hn hF S z ha with⟨K,R,S1,u1,p1⟩|⟨⟨K,R⟩,I⟩
  .have V:Y1 sb bV val old K n a:=by
    obtain⟨q1,t,q2,q3,q4⟩:=p1;exact⟨q1,t,H.hm.to.trans (O n z) q2,q3,q4⟩
   have hu1:UpT sb f.aj.length old K:=λx G=>H.hm.to.trans (O x G) (u1 x G)
   have step:∀r,vS old (n:Int) f.aj[n].bC ((k+1:Nat):Int) h f o4 K=some r->vS old (n:Int) f.aj[n].bC (k:Int) h f o4 l=some r:=λr L=>by refine M3 ?_;rw[aZ w,ai,aQ w,R,rW,cond_neg (by rfl),aY w af];exact L
   rcases ih (k+1) K (aG w) S1 hu1 (λb D=>by
    rw[cg,bB w] at D;rcases bu.1 D with D|D
    .exact Y1.up H hf hn hF u1 z (uF D) (N b D)
    .simp at D;subst D;exact V) with⟨c2,S2,u2,u3,p2,U⟩|⟨U,I⟩
   .exact .inl ⟨c2,S2,u2,λx G=>H.hm.to.trans (u1 x G) (u3 x G),p2,λr L=>step _ (U r L)⟩
   .exact .inr ⟨step _ U,I⟩
  .refine .inr ⟨M3 ?_,I⟩;rw[aZ w,ai,aQ w,R,rW,cond_pos (by rfl)]
theorem h441_10 {old:List Int} {o4:FSt}:∀(k i:Nat) (l:List Int),f.aj.length=i+k->TS T sb bV val f l->UpT sb f.aj.length old l->(∀n,(w:n<f.aj.length)->n<i->∀a∈f.aj[n].bC,Y1 sb bV val old l n a)->
  (∃q,TS T sb bV val f q/\UpT sb f.aj.length old q/\(∀n,(w:n<f.aj.length)->∀a∈f.aj[n].bC,Y1 sb bV val old q n a)/\∀r,(Option.bind (f471 old q) λK=>wB (!K) h f o4 q)=some r->vR old (i:Int) h f o4 l=some r)\/
  (vR old (i:Int) h f o4 l=some (⟨[]⟩,false)/\∀τ,BG sb bV val f τ->False):=by
 intro k;induction k with
 |zero=>intro i l V S R O;refine .inl ⟨l,S,R,λn w=>O n w af,λr I=>Wa ?_⟩;rw[cond_neg (by rw[bM];omega)];exact I
 |succ k ih=>
  intro i l V S R O;have G:i<f.aj.length:=af;have step:∀r,vS old (i:Int) f.aj[i].bC 0 h f o4 l=some r->vR old (i:Int) h f o4 l=some r:=λr I=>by refine Wa ?_;rw[cond_pos (by rw[bF];omega),bR G];exact I
  rcases h441_14 H hf hn hF (old:=old) (o4:=o4) G f.aj[i].bC 0 l rfl S R (λa D=>by cases D) with⟨U,S1,u1,u2,p1,L⟩|⟨L,z⟩
  .rcases ih (i+1) U af S1 u1 (λn w hlt a D=>by
    by_cases e:n=i
    .subst e;exact p1 a D
    .exact Y1.up H hf hn hF u2 w D (O n w af a D)) with⟨c2,S2,u3,p2,N⟩|⟨N,z⟩
   .exact .inl ⟨c2,S2,u3,p2,λr I=>step _ (L _ (N r I))⟩
   .exact .inr ⟨step _ (L _ N),z⟩
  .exact .inr ⟨step _ L,z⟩
omit H hf hF in
theorem h441_21 {o4:FSt} {tl:List Int} (q:tl.length=f.aj.length):∀(k i:Nat),f.aj.length=i+k->He (i:Int) f o4 tl ((y9 f tl).aj.take i)=some (y9 f tl,true):=by intro k;induction k with
 |zero=>intro i w;refine Wb ?_;rw[cond_neg (by rw[bM];omega),gx (by rw[vP q];omega)]
 |succ k z=>intro i w;have l:i<f.aj.length:=af;refine Wb ?_;rw[cond_pos (by rw[bF];omega),qF af,bR l,bT _ (by rw[fF];omega) ah af,bl af];have:=z (i+1) af;rw[cg,DT q l] at this;exact this
theorem h441_7 {o4:FSt}:∀(M:Nat) (l:List Int),room T l<=M->TS T sb bV val f l->YZ T sb bV val f (wB true h f o4 l):=by
 intro M;induction M using Nat.strongRecOn with
 |ind M ih=>
 intro l hM S;have step:∀r,vR l 0 h f o4 l=some r->wB true h f o4 l=some r:=λr R=>by refine abI ?_;rw[ai,bT _ ah (by rw[S.len];omega) af,dw];exact R
 rcases h441_10 H hf hn hF (old:=l) (o4:=o4) f.aj.length 0 l af S (λx V=>H.hm.to.refl (S.rg x V).1 (S.rg x V).2) (λn _ L=>absurd L af) with⟨D,S1,u1,p1,K⟩|⟨K,O⟩
 .have z:=c471 (a:=l) (b:=D) (by rw[S.len,S1.len]) (by rw[S.len];omega)
  rcases WE (T:=T) (a:=l) (b:=D) (by rw[S.len,S1.len]) (λn q=>by
   rw[S.len] at q
   exact⟨(S.rg n q).1,H.le _ _ (u1 n q),(S1.rg n q).2⟩) with e|e
  .subst e;refine .inl ⟨l,step _ (K _ ?_),S,λn q p U=> ?_⟩
   .rw[z,ak];simp only[tU,gA];refine abI ?_;rw[az];exact h441_21 (o4:=o4) hn S.len f.aj.length 0 af
   .rw[qq q] at U;obtain⟨a,ha,rfl⟩:=aC.1 U;obtain⟨G,t,I,q3,q4⟩:=p1 n q a ha;have et:=H.hm.to.anti q3 I;rw[et] at q4;exact⟨G,q4⟩
  .have N:l≠D:=λe2=>by subst e2;omega
   have:=ih (room T D) af D (aT _) S1;have w:∀r,wB true h f o4 D=some r->wB true h f o4 l=some r:=λr R=>step _ (K _ (by rw[z,ak,ua N,mV];exact R))
   rcases this with⟨Sa,G,I⟩|⟨G,I⟩
   .exact .inl ⟨Sa,w _ G,I⟩
   .exact .inr ⟨w _ G,I⟩
 .exact .inr ⟨step _ K,O⟩
theorem c441:YZ T sb bV val f (f441 h f):=by
 have S:=TS.init H hf hn hF;have D:=h441_7 H hf hn hF (o4:=⟨[]⟩) _ (f.aj.map (·.cO)) (aT _) S;have key:∀r,wB true h f ⟨[]⟩ (f.aj.map (·.cO))=some r->∀(k i:Nat),f.aj.length=i+k->OV (i:Int) h f ⟨[]⟩ ((f.aj.take i).map (·.cO))=some r:=by intro r q k;induction k with
  |zero=>intro i G;have e:i=f.aj.length:=af;subst e;refine abH ?_;rw[cond_neg (by rw[bM];omega),fJ];exact q
  |succ k I=>intro i G;have l:i<f.aj.length:=af;refine abH ?_;rw[cond_pos (by rw[bF];omega),bR l,bT _ aD ah af,bl af];have:=I (i+1) af;rw[cg,aK l,bJ] at this;exact this
 have step:∀r,wB true h f ⟨[]⟩ (f.aj.map (·.cO))=some r->f441 h f=some r:=λr q=>e441 (key r q f.aj.length 0 af)
 rcases D with⟨tl,w,z⟩|⟨w,z⟩
 .exact .inl ⟨tl,step _ w,z⟩
 .exact .inr ⟨step _ w,z⟩
end
def WT (sb:Int->Int->Prop) (bV:Int->Int) (val:Int->Int->Int) (f:FSt):Prop:=∀n,n<f.aj.length->Gi sb bV val f (nw f) n
structure Xg (T F:Nat) (sb:Int->Int->Prop) (bV:Int->Int) (val:Int->Int->Int) (A B f:FSt):Prop where
 can:Can T F f
 wt:WT sb bV val f
 l:Le sb A f
 r:Le sb B f
 least:∀C,Can T F C->WT sb bV val C->Le sb A C->Le sb B C->Le sb f C
 Fx:∀P,Ep A P->Ep B P->Ep f P
section
variable {h:bQ} {T F:Nat} {sb:Int->Int->Prop} {bV:Int->Int} {val:Int->Int->Int} (H:HV h T F sb bV val)
include H
theorem Xg.uniq {A B f g:FSt} (l:Xg T F sb bV val A B f) (q:Xg T F sb bV val A B g):f=g:=
 Le.anti H.hm.to l.can q.can (l.least g q.can q.wt q.l q.r) (q.least f l.can l.wt l.l l.r)
theorem VM {L C:FSt} (D:Can T F L) (z:Can T F C) (I:WT sb bV val C) {m:Nat->Nat} (q:CC sb (mI L) 0 (mI C) 0 m):BG sb bV val L (λx=>nw C (m x)):=λn hn=>by have w:=D.Jh hn;have l:=q.2 n w;refine⟨l.1,λp G=> ?_⟩;exact I (m n) (z.RL (q.Jh w)) _ (l.2 p G)
theorem QB {A B L:FSt} (l:Lub T F sb A B L) {res:Option (FSt×Bool)} (hr:YZ T sb bV val L res):
  (∃f,res=some (f,true)/\Xg T F sb bV val A B f)\/(res=some (⟨[]⟩,false)/\∀C,Can T F C->WT sb bV val C->Le sb A C->Le sb B C->False):=by
 rcases hr with⟨tl,e,S,hs⟩|⟨e,V⟩
 .have q:=S.len;have K:Can T F (y9 L tl):=l.can.y9 q S.rg;have U:Le sb L (y9 L tl):=by
   refine⟨id,rfl,λi z=>⟨?_,λp w=> ?_⟩⟩
   .show sb (nw L i) (nw (y9 L tl) i);rw[Cn q (l.can.RL z)];exact S.up i (l.can.RL z)
   .show p∈iW (y9 L tl) i;rw[yA q];exact w
  refine .inl ⟨y9 L tl,e,K,λn hn p w=> ?_,Le.trans H.hm.to l.l U,Le.trans H.hm.to l.r U,λC I hw D G=> ?_,λP hA hB k hk=> ?_⟩
  .rw[vP q] at hn;rw[yA q] at w;have:=hs n hn p w;rw[Cn q hn,Cn q (l.can.bd n hn p w)];exact this
  .obtain⟨m,O⟩:=l.least C I D G;have R:=VM H l.can I hw O;refine⟨m,O.1,λi z=> ?_⟩;have z:rR (iW L) 0 i:=by
    have:rR (iW (y9 L tl)) 0 i:=z
    rw[yA q] at this;exact this
   have N:=l.can.RL z;refine⟨?_,λp w=> ?_⟩
   .show sb (nw (y9 L tl) i) _;rw[Cn q N];exact S.dH _ R i N
   .have w:p∈iW (y9 L tl) i:=w;rw[yA q] at w;exact(O.2 i z).2 p w
  .rw[vP q] at hk;obtain⟨π,D,G⟩:=l.Fx P hA hB k hk;exact⟨π,D,by rw[rty_at q];exact G⟩
 .refine .inr ⟨e,λC I hw D G=> ?_⟩;obtain⟨m,O⟩:=l.least C I D G;exact V _ (VM H l.can I hw O)
def TUni (T F:Nat) (sb:Int->Int->Prop) (bV:Int->Int) (val:Int->Int->Int) (A B:FSt) (res:Option (FSt×Bool)):Prop:=
 (∃f,res=some (f,true)/\Xg T F sb bV val A B f)\/(res=some (⟨[]⟩,false)/\∀C,Can T F C->WT sb bV val C->Le sb A C->Le sb B C->False)
variable {A B:FSt} (hA:Can T F A) (hB:Can T F B) (hT:T<=1000) (hF:F<=300) {P Q:Nat} (hn:A.aj.length+B.aj.length<=100000)
theorem Can.Fx {f:FSt} (hf:Can T F f):∃P,Ep f P/\P.length<=f.aj.length:=by
 have:∀k,k<f.aj.length->∃π,zz f π=some k:=λk l=>by have K:=hf.Jh l;clear l;induction K with
  |root=>exact⟨[],rfl⟩
  | @step n p hn I w=>obtain⟨π,hπ⟩:=w;exact⟨π++[p.1],wG.2 ⟨n,hπ,(sK (hf.x8 n)).2 I⟩⟩
 have key:∀N,N<=f.aj.length->∃P:List (List Int),P.length<=N/\∀k,k<N->∃π∈P,zz f π=some k:=by intro N;induction N with
  |zero=>intro _;exact⟨[],aT _,λk l=>absurd l af⟩
  |succ N w=>
   intro O;obtain⟨P,z,q⟩:=w af;obtain⟨π,hπ⟩:=this N af;refine⟨π::P,by simp;omega,λk l=> ?_⟩;by_cases e:k=N
   .subst e;exact⟨π,by simp,hπ⟩
   .obtain⟨L,D,G⟩:=q k af;exact⟨L,by simp[D],G⟩
 obtain⟨P,z,q⟩:=key f.aj.length (aT _);exact⟨P,q,z⟩
include hA hB in
theorem Lub.size {L:FSt} (w:Lub T F sb A B L):L.aj.length<=A.aj.length+B.aj.length:=by obtain⟨P,l,z⟩:=Can.Fx H hA;obtain⟨Q,q,D⟩:=Can.Fx H hB;have:=(w.Fx (P++Q) (l.mono λπ h=>dU _ h) (q.mono λπ h=>fL _ h)).le;rw[cR] at this;omega
include hA hB hT hF hn
theorem c419:TUni T F sb bV val A B (f419 h A B):=by
 rcases c433 H.hm hA hB af af with⟨L,q,w⟩|⟨q,z⟩
 .have K:=w.size H hA hB;have step:∀r:FSt×Bool,f434 h L=some r->f419 h A B=some r:=λr I=>by
   refine e419 ?_;rw[q,ak,cond_neg (by rfl),I,ak]
  rcases QB H w (c434 H w.can af hT af) with⟨f,e,l⟩|⟨e,l⟩
  .exact .inl ⟨f,step _ e,l⟩
  .exact .inr ⟨step _ e,l⟩
 .refine .inr ⟨e419 ?_,λC G _ D l=>z C G D l⟩;rw[q,ak,cond_pos (by rfl)]
theorem c431:TUni T F sb bV val A B (f431 h A B):=by
 rcases c440 H.hm hA hB af af with⟨L,q,w⟩|⟨q,z⟩
 .have K:=w.size H hA hB;have step:∀r:FSt×Bool,f441 h L=some r->f431 h A B=some r:=λr I=>by
   refine e431 ?_;rw[q,ak,cond_neg (by rfl),I,ak]
  rcases QB H w (c441 H w.can af af) with⟨f,e,l⟩|⟨e,l⟩
  .exact .inl ⟨f,step _ e,l⟩
  .exact .inr ⟨step _ e,l⟩
 .refine .inr ⟨e431 ?_,λC G _ D l=>z C G D l⟩;rw[q,ak,cond_pos (by rfl)]
theorem U5:f419 h A B=f431 h A B:=by
 rcases c419 H hA hB hT hF hn with⟨f,e1,l⟩|⟨e1,l⟩<;>rcases c431 H hA hB hT hF hn with⟨g,w,q⟩|⟨w,q⟩
 .rw[e1,w,l.uniq H q]
 .exact(q f l.can l.wt l.l l.r).elim
 .exact(l g q.can q.wt q.l q.r).elim
 .rw[e1,w]
end
end Go.Proofs.YthppjmoncapdfaaGreatDoor.cl.pf
namespace Go.Proofs.YthppjmoncapdfaaGreatDoor.cl.pf
open Go Go.AM
def vY:Nat->List Int->Int->List Node
 |_,[],t=>[⟨t,[]⟩]
 |k,f::π,t=>⟨0,[⟨f,(k+1:Nat)⟩]⟩::vY (k+1) π t
def qC (π:List Int) (t:Int):FSt:=⟨vY 0 π t⟩
def wJ:∀(k:Nat) (π:List Int) (t:Int),(vY k π t).length=π.length+1
 |_,[],_=>rfl
 |k,f::π,t=>by simp only[vY,bg,wJ (k+1) π t]
def gq (π:List Int) (t:Int):(qC π t).aj.length=π.length+1:=wJ 0 π t
def sV:∀(k:Nat) (π:List Int) (t:Int) (i:Nat),(vY k π t)[i]? =if h:i<π.length then some ⟨0,[⟨π[i],(k+i+1:Nat)⟩]⟩ else if i=π.length then some ⟨t,[]⟩ else none
 |k,[],t,0=>by simp[vY]
 |k,[],t,i+1=>by simp[vY]
 |k,f::π,t,0=>by simp[vY]
 |k,f::π,t,i+1=>by
  simp only[vY,qS,sV (k+1) π t i,bg,Nat.add_lt_add_iff_right,List.getElem_cons_succ,Nat.add_right_cancel_iff];by_cases h:i<π.length
  .simp only[h,dite_true];congr 4;omega
  .simp only[h,dite_false]
def zI {π:List Int} {t:Int} {i:Nat} (h:i<π.length):iW (qC π t) i=[(π[i],i+1)]:=by
 unfold iW
 have:(qC π t).aj[i]? =some ⟨0,[⟨π[i],(0+i+1:Nat)⟩]⟩:=by show(vY 0 π t)[i]? =_;rw[sV,jU h]
 rw[this];simp[Su]
def qh {π:List Int} {t:Int}:iW (qC π t) π.length=[]:=by
 unfold iW
 have:(qC π t).aj[π.length]? =some ⟨t,[]⟩:=by show(vY 0 π t)[π.length]? =_;rw[sV,dif_neg (tR _),au rfl]
 rw[this];rfl
def Zv {π:List Int} {t:Int} {i:Nat} (h:i<π.length):nw (qC π t) i=0:=by
 unfold nw
 have:(qC π t).aj[i]? =some ⟨0,[⟨π[i],(0+i+1:Nat)⟩]⟩:=by show(vY 0 π t)[i]? =_;rw[sV,jU h]
 rw[this]
def BN {π:List Int} {t:Int}:nw (qC π t) π.length=t:=by
 unfold nw
 have:(qC π t).aj[π.length]? =some ⟨t,[]⟩:=by show(vY 0 π t)[π.length]? =_;rw[sV,dif_neg (tR _),au rfl]
 rw[this]
def Vq:∀(k:Nat) (π:List Int) (t:Int),∀x∈vY k π t,∀a∈x.bC,0<=a.To
 |_,[],t,x,l,a,q=>by simp[vY] at l;subst l;cases q
 |k,f::π,t,x,l,a,q=>by
  simp only[vY,aF] at l;rcases l with rfl|l
  .simp at q;subst q;show 0<=((k+1:Nat):Int);omega
  .exact Vq (k+1) π t x l a q
def chn_go {T F:Nat} (hT:0<T) {π:List Int} {t:Int} (hπ:∀f∈π,0<=f/\f<(F:Int)) (ht:0<=t/\t<(T:Int)):GO T F (mI (qC π t)) (qC π t).aj.length:=by
 rw[gq];refine⟨λi q p l=> ?_,λi q=> ?_,λi q p l=> ?_,λi q=> ?_⟩<;>by_cases h:i<π.length
 .have l:p∈iW (qC π t) i:=l;rw[zI h] at l;simp at l;subst l;show i+1<_;omega
 .have l:p∈iW (qC π t) i:=l;have e:i=π.length:=af;rw[e,qh] at l;cases l
 .show y7 (iW _ i);rw[zI h];exact CW _ _
 .have e:i=π.length:=af;show y7 (iW _ i);rw[e,qh];exact y7.nil
 .have l:p∈iW (qC π t) i:=l;rw[zI h] at l;simp at l;subst l;exact hπ _ (bq h)
 .have l:p∈iW (qC π t) i:=l;have e:i=π.length:=af;rw[e,qh] at l;cases l
 .show 0<=nw _ i/\nw _ i<_;rw[Zv h];omega
 .have e:i=π.length:=af;show 0<=nw _ i/\nw _ i<_;rw[e,BN];exact ht
def chn_vis {π:List Int} {t:Int}:∀(j i k:Nat),π.length=i+j->j<k->nV (iW (qC π t)) k i (List.range i)=List.range (π.length+1):=by intro j;induction j with
 |zero=>
  intro i k l q;have e:i=π.length:=af;obtain⟨k,rfl⟩:∃k',k=k'+1:=⟨k-1,af⟩
  rw[nV,aq ah,e,qh,iN];rfl
 |succ j w=>
  intro i k l q;obtain⟨k,rfl⟩:∃k',k=k'+1:=⟨k-1,af⟩
  rw[nV,aq ah,zI af,<-iN];exact w (i+1) k af af
def sw {T F:Nat} (hT:0<T) {π:List Int} {t:Int} (hπ:∀f∈π,0<=f/\f<(F:Int)) (ht:0<=t/\t<(T:Int)):Can T F (qC π t):=by refine HN (by rw[gq];omega) (chn_go hT hπ ht) (Vq 0 π t) ?_;rw[gq];exact chn_vis π.length 0 _ af af
def Mh {π:List Int} {t:Int}:∀(i:Nat),i<=π.length->zz (qC π t) (π.take i)=some i:=by intro i;induction i with
 |zero=>intro _;rfl
 |succ i l=>intro q;rw[cg,aK (by omega:i<π.length)];refine wG.2 ⟨i,l af,?_⟩;show za (iW _ i) _=_;rw[zI af];simp[za]
def at_take {C:Gr} {n k:Nat} {π:List Int} (h:AG C n π=some k) (i:Nat):∃j,AG C n (π.take i)=some j/\AG C j (π.drop i)=some k:=by rw[<-jl i π,BK,dL] at h;obtain⟨j,l,q⟩:=h;refine⟨j,l,q⟩
def Pg (C:Gr) (π:List Int) (i:Nat):Nat:=(AG C 0 (π.take i)).getD 0
def SF {C:Gr} {k:Nat} {π:List Int} (h:AG C 0 π=some k) (i:Nat):AG C 0 (π.take i)=some (Pg C π i):=by obtain⟨j,l,_⟩:=at_take h i;unfold Pg;rw[l];rfl
def CF {C:Gr} {k:Nat} {π:List Int} (h:AG C 0 π=some k):Pg C π π.length=k:=by unfold Pg;rw[fJ,h];rfl
def uD {C:Gr} (z:YQ C) {k:Nat} {π:List Int} (h:AG C 0 π=some k) {i:Nat} (D:i<π.length):(π[i],Pg C π (i+1))∈C.sc (Pg C π i):=by have l:=SF h (i+1);rw[cg,aK D] at l;obtain⟨j,q,w⟩:=wG.1 l;rw[SF h i] at q;cases q;exact(sK (z _)).1 w
section
variable {T F:Nat} {sb:Int->Int->Prop} (hT:TO T sb) {π:List Int} {t:Int} (hπ:∀f∈π,0<=f/\f<(F:Int)) (ht:0<=t/\t<(T:Int))
include hT hπ ht
theorem Zu {C:FSt} (q:Can T F C):Le sb (qC π t) C↔∃k,zz C π=some k/\sb t (nw C k):=by
 have w:0<T:=af;have z:=sw (F:=F) w hπ ht;constructor
 .rintro⟨m,I⟩;have e:=Mh (π:=π) (t:=t) π.length (aT _);rw[fJ] at e;refine⟨m π.length,IG z q I e,?_⟩;have:=(I.2 π.length (z.Jh (by rw[gq];omega))).1;have K:(mI (qC π t)).ty π.length=t:=BN;rw[K] at this;exact this
 .rintro⟨k,G,O⟩;refine⟨Pg (mI C) π,by simp[Pg,AG],λi L=> ?_⟩;have D:=z.RL L;rw[gq] at D;by_cases h:i<π.length
  .refine⟨?_,λp l=> ?_⟩
   .show sb (nw (qC π t) i) _;rw[Zv h];have N:=Vk (λi _=>q.x8 i) _ 0 _ .root (SF G i);have:=q.go.tp _ (q.RL N);exact hT.top this.1 this.2
   .have l:p∈iW (qC π t) i:=l;rw[zI h] at l;simp at l;subst l;exact uD q.Kt G h
  .have e:i=π.length:=af;subst e;refine⟨?_,λp l=> ?_⟩
   .show sb (nw (qC π t) _) _;rw[BN,CF G];exact O
   .have l:p∈iW (qC π t) π.length:=l;rw[qh] at l;cases l
end
def chn_cov {π:List Int} {t:Int} {P:List (List Int)} (h:∀i,i<=π.length->π.take i∈P):Ep (qC π t) P:=λk l=>by rw[gq] at l;exact⟨π.take k,h k af,Mh k af⟩
def K1 (π:List Int) (t:Int):vY 0 π t=(vY 0 π t).take π.length++[⟨t,[]⟩]:=by
 have h:(vY 0 π t).drop π.length=[⟨t,[]⟩]:=by apply ki;intro i;rw[vn,sV];cases i with
  |zero=>simp
  |succ i=>rw[dif_neg af,aq af];simp
 rw[<-h,jl]
def c430 {p:List Int} (z:p.length<=1000000) (t:Int):f430 p ⟨[⟨t,[]⟩]⟩=some (qC p t):=by
 refine e430 ?_;have key:∀(k i:Nat),p.length=i+k->OP p (i:Int) ⟨[⟨t,[]⟩]⟩ ⟨[]⟩ ((vY 0 p t).take i)=some (qC p t):=by intro k;induction k with
  |zero=>intro i q;have e:i=p.length:=af;subst e;refine abz ?_;rw[cond_neg (by rw[bM];omega)];refine abA ?_;rw[cond_pos (by rfl),iU,iU];refine k430_12 ?_;rw[cond_neg (by rfl),bT _ (by rw[fF,wJ];omega) ah af,<-K1];refine abA ?_;rw[cond_neg (by rfl)];rfl
  |succ k w=>intro i q;have l:i<p.length:=af;refine abz ?_;rw[cond_pos (by rw[bF];omega),bR l,bT _ (by rw[fF,wJ];omega) ah af,bl af];have:=w (i+1) af;rw[cg,sV,jU l] at this;simpa using this
 have:=key p.length 0 af;simpa using this
def c426 {p:List Int} (z:p.length<=1000000) (t:Int):f426 p ⟨[⟨t,[]⟩]⟩=some (qC p t):=by
 refine e426 ?_;have key:∀(k i:Nat),p.length=i+k->OL p p (p.length:Int) (i:Int) ⟨[⟨t,[]⟩]⟩ ⟨[]⟩ ((vY 0 p t).take i)=some (qC p t):=by intro k;induction k with
  |zero=>intro i q;have e:i=p.length:=af;subst e;refine abt ?_;rw[cond_neg (by rw[bM];omega)];refine abu ?_;rw[cond_pos (by rfl),iU];refine k426_12 ?_;rw[cond_neg (by rfl),bT _ (by rw[fF,wJ];omega) ah af,<-K1];refine abu ?_;rw[cond_neg (by rfl)];rfl
  |succ k w=>intro i q;have l:i<p.length:=af;refine abt ?_;rw[cond_pos (by rw[bF];omega),bR l,bT _ (by rw[fF,wJ];omega) ah af,bl af];have:=w (i+1) af;rw[cg,sV,jU l] at this;simpa using this
 have:=key p.length 0 af;simpa using this
end Go.Proofs.YthppjmoncapdfaaGreatDoor.cl.pf
namespace Go.Proofs.YthppjmoncapdfaaGreatDoor.cl.pf
open Go Go.AM
def Ss (a b:Int):Prop:=a=0/\b=0
def to0:TO 1 Ss:=⟨λh=>by have:=h.1;omega,λh=>by have:=h.2;omega,λh l=>⟨af,af⟩,λh l=>⟨h.1,l.2⟩,λh l=>by rw[h.1,h.2],λh l=>⟨rfl,af⟩⟩
def Can.up {T l F:Nat} {f:FSt} (h:Can T F f) (hT:T<=l):Can l F f:=
 ⟨h.ne,⟨h.go.bd,h.go.x8,h.go.ft,λn hn=>⟨(h.go.tp n hn).1,by have:=(h.go.tp n hn).2;omega⟩⟩,h.eq⟩
structure YG (F:Nat) (A B:List Int) (f:FSt):Prop where
 can:Can 1 F f
 at_:∃k,zz f A=some k/\zz f B=some k
 least:∀(C:FSt) (T':Nat) (sb:Int->Int->Prop),TO T' sb->Can T' F C->(∃k,zz C A=some k/\zz C B=some k)->Le sb f C
def YG.uniq {F:Nat} {A B:List Int} {f g:FSt} (l:YG F A B f) (q:YG F A B g):f=g:=
 Le.anti to0 l.can q.can (l.least g 1 Ss to0 q.can q.at_) (q.least f 1 Ss to0 l.can l.at_)
def YG.le {F T:Nat} {sb:Int->Int->Prop} (hT:TO T sb) {A B:List Int} {f C:FSt} (h:YG F A B f) (l:1<=T) (q:Can T F C):Le sb f C↔∃k,zz C A=some k/\zz C B=some k:=by
 constructor
 .rintro⟨m,w⟩;obtain⟨k,z,D⟩:=h.at_;exact⟨m k,IG (h.can.up l) q w z,IG (h.can.up l) q w D⟩
 .exact h.least C T sb hT q
def le_zero {T F:Nat} {sb:Int->Int->Prop} (hT:TO T sb) {f C:FSt} (hf:Can 1 F f) (z:Can T F C) (h:Le Ss f (y9 C (replicate C.aj.length 0))):Le sb f C:=by
 obtain⟨m,w⟩:=h;have q:(replicate C.aj.length (0:Int)).length=C.aj.length:=ah;have I:Can 1 F (y9 C (replicate C.aj.length 0)):=z.y9 q λi l=>by rw[aX,jm,au l];simp
 refine⟨m,w.1,λi l=>⟨?_,λp G=> ?_⟩⟩
 .have K:=hf.go.tp i (hf.RL l);have e:(mI f).ty i=0:=af;rw[e];have D:=I.RL (w.Jh l);rw[vP q] at D;have:=z.go.tp _ D;exact hT.top this.1 this.2
 .have:=(w.2 i l).2 p G;have e:(mI (y9 C (replicate C.aj.length 0))).sc=(mI C).sc:=yA q;rw[e] at this;exact this
def Zr {T F:Nat} {C:FSt} (l:Can T F C):Can 1 F (y9 C (replicate C.aj.length 0)):=l.y9 ah λi q=>by rw[aX,jm,au q];simp
def Bk (A B:List Int):List Node:=[⟨0,[]⟩]++(qC A 0).aj.map (Jw 1)++(qC B 0).aj.map (Jw (A.length+2))
section
variable {F:Nat} {A B:List Int} (hA:∀f∈A,0<=f/\f<(F:Int)) (hB:∀f∈B,0<=f/\f<(F:Int))
theorem yh:(Bk A B).length=A.length+B.length+3:=by unfold Bk;simp[gq];omega
theorem eqL_0:(Bk A B)[0]? =some ⟨0,[]⟩:=rfl
theorem eqL_a {i:Nat} (h:i<A.length+1):(Bk A B)[i+1]? =some (Jw 1 ((qC A 0).aj[i]'(by rw[gq];exact h))):=by unfold Bk;rw[eO,List.singleton_append,qS,dA (by simp[gq];omega),dB,aK (by rw[gq];exact h)];rfl
theorem eqL_b {i:Nat} (h:i<B.length+1):(Bk A B)[i+(A.length+2)]? =some (Jw (A.length+2) ((qC B 0).aj[i]'(by rw[gq];exact h))):=by
 unfold Bk;rw[fW (by simp[gq]),dB]
 have:i+(A.length+2)-([(⟨0,[]⟩:Node)]++(qC A 0).aj.map (Jw 1)).length=i:=by simp[gq]
 rw[this,aK (by rw[gq];exact h)];rfl
theorem EA {x:Nat} (w:x<A.length+B.length+3):x=0\/(∃i,i<A.length+1/\x=i+1)\/∃i,i<B.length+1/\x=i+(A.length+2):=by
 by_cases l:x=0
 .exact .inl l
 .by_cases q:x<A.length+2
  .exact .inr (.inl ⟨x-1,by omega,af⟩)
  .exact .inr (.inr ⟨x-(A.length+2),by omega,af⟩)
include hA hB
theorem H7 {x:Node} (L:x∈Bk A B):AO F (A.length+B.length+3) x.bC/\x.cO=0:=by
 obtain⟨j,l⟩:=gC.1 L;have w:=(bD.1 l).1;rw[yh] at w;have cA:=sw (T:=1) af hA ⟨jo 0,af⟩;have G:=sw (T:=1) af hB ⟨jo 0,af⟩;rcases EA w with rfl|⟨i,q,rfl⟩|⟨i,q,rfl⟩
 .rw[eqL_0] at l;cases l;exact⟨⟨List.Pairwise.nil,λa K=>by cases K⟩,rfl⟩
 .rw[eqL_a q] at l;cases l;have z:(qC A 0).aj[i]'(by rw[gq];exact q)∈(qC A 0).aj:=bq _;have D:=cA.ao z;have I:=cA.Pn z;have N:=gq A 0;have O:=gq B 0;refine⟨D.sh af,?_⟩;unfold Jw;simp only;omega
 .rw[eqL_b q] at l;cases l;have z:(qC B 0).aj[i]'(by rw[gq];exact q)∈(qC B 0).aj:=bq _;have D:=G.ao z;have I:=G.Pn z;have N:=gq A 0;have O:=gq B 0;refine⟨D.sh af,?_⟩;unfold Jw;simp only;omega
theorem Vx {i:Nat} (q:i<A.length+1):(lG (Bk A B)).sc (i+1)=(iW (qC A 0) i).map λp=>(p.1,p.2+1):=by
 have w:i+1<(Bk A B).length:=by rw[yh];omega
 have e:=(bD.1 (eqL_a (A:=A) (B:=B) q)).2;have cA:=sw (T:=1) af hA ⟨jo 0,af⟩;have l:i<(qC A 0).aj.length:=by rw[gq];exact q
 rw[IF w,e,qq l];exact RU (cA.ao (bq l))
theorem Vy {i:Nat} (q:i<B.length+1):(lG (Bk A B)).sc (i+(A.length+2))=(iW (qC B 0) i).map λp=>(p.1,p.2+(A.length+2)):=by
 have z:i+(A.length+2)<(Bk A B).length:=by rw[yh];omega
 have e:=(bD.1 (eqL_b (A:=A) (B:=B) q)).2;have w:=sw (T:=1) af hB ⟨jo 0,af⟩;have l:i<(qC B 0).aj.length:=by rw[gq];exact q
 rw[IF z,e,qq l];exact RU (w.ao (bq l))
theorem Mq {x:Nat} (q:x<A.length+B.length+3):(lG (Bk A B)).ty x=0:=by
 have l:x<(Bk A B).length:=by rw[yh];exact q
 rw[ab4 l];exact(H7 hA hB (bq l)).2
theorem eqL_sc0:(lG (Bk A B)).sc 0=[]:=rfl
theorem eqL_bd:Bd (lG (Bk A B)).sc (A.length+B.length+3):=λx z p q=>by
 have l:x<(Bk A B).length:=by rw[yh];exact z
 rw[IF l] at q;obtain⟨a,w,rfl⟩:=aC.1 q;have:=((H7 hA hB (bq l)).1.ok a w).2;show a.To.toNat<_;omega
abbrev eqW (A B:List Int):List (Nat×Nat):=[(0,1),(1,A.length+2),(1+A.length,A.length+2+B.length)]
theorem eq_sol {C:FSt} {V:Nat} (S:Can V F C) (h:∃k,zz C A=some k/\zz C B=some k):
  Sx Ss (lG (Bk A B)) (A.length+B.length+3) (eqW A B) (mI (y9 C (replicate C.aj.length 0))) (λx=>if x=0 then 0 else if x<A.length+2 then Pg (mI C) A (x-1) else Pg (mI C) B (x-(A.length+2))):=by
 obtain⟨k,D,G⟩:=h;have N:(replicate C.aj.length (0:Int)).length=C.aj.length:=ah;have I:(mI (y9 C (replicate C.aj.length 0))).sc=(mI C).sc:=yA N;have K:∀y,(mI (y9 C (replicate C.aj.length 0))).ty y=0:=λy=>by
  show nw _ y=0;by_cases U:y<C.aj.length
  .rw[Cn N U,aX,jm,au U];rfl
  .unfold nw;rw[fA (by rw[vP N];omega)]
 have R:Pg (mI C) A 0=0:=rfl;have b0:Pg (mI C) B 0=0:=rfl;refine⟨λx O=>⟨Mq hA hB O,K _⟩,λx O p z=> ?_,λp z=> ?_⟩
 .rw[I];rcases EA O with rfl|⟨i,L,rfl⟩|⟨i,L,rfl⟩
  .rw[eqL_sc0 hA hB] at z;cases z
  .rw[Vx hA hB L] at z;obtain⟨q,w,rfl⟩:=aC.1 z;by_cases l:i<A.length
   .rw[zI l] at w;simp at w;subst w;show(A[i],if i+1+1=0 then 0 else if i+1+1<A.length+2 then _ else _)∈(mI C).sc (if i+1=0 then 0 else if i+1<A.length+2 then _ else _);rw[aq af,au af,aq af,au af];exact uD S.Kt D l
   .have e:i=A.length:=af;rw[e,qh] at w;cases w
  .rw[Vy hA hB L] at z;obtain⟨q,w,rfl⟩:=aC.1 z;by_cases l:i<B.length
   .rw[zI l] at w;simp at w;subst w;show(B[i],if i+1+(A.length+2)=0 then 0 else if i+1+(A.length+2)<A.length+2 then _ else _)∈(mI C).sc (if i+(A.length+2)=0 then 0 else if i+(A.length+2)<A.length+2 then _ else _);rw[aq af,aq af,aq af,aq af,oA,oA];exact uD S.Kt G l
   .have e:i=B.length:=af;rw[e,qh] at w;cases w
 .simp only[eqW,aF,eN,eV] at z;rcases z with rfl|rfl|rfl
  .simp[R]
  .simp[R,b0]
  .show(if 1+A.length=0 then 0 else if 1+A.length<A.length+2 then _ else _)=(if A.length+2+B.length=0 then 0 else if A.length+2+B.length<A.length+2 then _ else _)
   rw[aq af,au af,aq af,aq af,CY,CY,CF D,CF G]
theorem eq_shr {G:Gr} {q:Nat->Nat} (w:Uni 1 F Ss (lG (Bk A B)) (A.length+B.length+3) (eqW A B) G q):YG F A B (lK G (A.length+B.length+3) (q 0))/\
  ∀P,(∀i,i<=A.length->A.take i∈P)->(∀i,i<B.length->B.take i∈P)->Ep (lK G (A.length+B.length+3) (q 0)) P:=by
 have N:0<A.length+B.length+3:=af;have hc:=w.can N;have cA:=sw (T:=1) af hA ⟨jo 0,af⟩;have cB:=sw (T:=1) af hB ⟨jo 0,af⟩;have q0:=w.sol.eq (0,1) ah;have q1:=w.sol.eq (1,A.length+2) ah;have q2:=w.sol.eq (1+A.length,A.length+2+B.length) ah;simp only at q0 q1 q2
 have S:=w.part to0 N (A:=mI (qC A 0)) (s:=0) (e:=λi=>i+1) (λi I=>by
  have l:=cA.RL I;rw[gq] at l;refine⟨by show i+1<_;omega,?_,Vx hA hB l⟩;have:=cA.Pn (bq (by rw[gq];exact l:i<(qC A 0).aj.length));have e2:(mI (qC A 0)).ty i=_:=ou (by rw[gq];exact l:i<(qC A 0).aj.length)
  rw[Mq hA hB af,e2];omega) (by show q (0+1)=q 0;exact q0.symm)
 have U:=w.part to0 N (A:=mI (qC B 0)) (s:=0) (e:=λi=>i+(A.length+2)) (λi I=>by
  have l:=cB.RL I;rw[gq] at l;refine⟨by show i+(A.length+2)<_;omega,?_,Vy hA hB l⟩;have:=cB.Pn (bq (by rw[gq];exact l:i<(qC B 0).aj.length));have e2:(mI (qC B 0)).ty i=_:=ou (by rw[gq];exact l:i<(qC B 0).aj.length)
  rw[Mq hA hB af,e2];omega) (by show q (0+(A.length+2))=q 0;rw[gv,q0];exact q1.symm)
 have D:∀i,i<=A.length->zz (lK G (A.length+B.length+3) (q 0)) (A.take i)=some ((jM G (A.length+B.length+3) (q 0)).idxOf (q (i+1))):=λi I=>IG cA hc S (Mh i I)
 have R:∀i,i<=B.length->zz (lK G (A.length+B.length+3) (q 0)) (B.take i)=some ((jM G (A.length+B.length+3) (q 0)).idxOf (q (i+(A.length+2)))):=λi I=>IG cB hc U (Mh i I)
 have V:q (A.length+1)=q (B.length+(A.length+2)):=by rw[sO A.length 1,sO B.length];exact q2
 refine⟨⟨hc,⟨(jM G (A.length+B.length+3) (q 0)).idxOf (q (A.length+1)),?_,?_⟩,λC T' sb hT hC hk=> ?_⟩,λP O hPB k hk=> ?_⟩
 .have:=D A.length (aT _);rw[fJ] at this;exact this
 .have:=R B.length (aT _);rw[fJ] at this;rw[V];exact this
 .refine le_zero hT hc hC ?_;exact w.le to0 N (Zr hC) (eq_sol hA hB hC hk) ah
 .obtain⟨x,hx⟩:=HL hk;have hm:=aH hx;have K:=uR (uo w.go.bd (w.lt 0 N)).nd hx;obtain⟨hxn,L⟩:=w.fix N ((GR w.go.bd (w.lt 0 N)).1 hm);rcases EA hxn with rfl|⟨i,I,rfl⟩|⟨i,I,rfl⟩
  .refine⟨[],by have:=O 0 (by omega);simpa using this,?_⟩;have:=D 0 af;rw[List.take_zero] at this;refine this.trans (aJ some ?_);rw[<-q0];exact(aJ (λz=>List.idxOf z (jM G (A.length+B.length+3) (q 0))) L).trans K
  .exact⟨A.take i,O i af,by rw[D i af,L,K]⟩
  .by_cases l:i<B.length
   .exact⟨B.take i,hPB i l,by rw[R i af,L,K]⟩
   .have e:i=B.length:=af;subst e;refine⟨A.take A.length,O _ (aT _),?_⟩;rw[D _ (aT _),V,L,K]
def Y6 (F:Nat):Gr:=⟨λ_=>(List.range F).map λ(f:Nat)=>((f:Int),0),λ_=>0⟩
omit hA hB in
theorem Hw:YQ (Y6 F):=λx=>by show List.Pairwise _ (List.map _ _);rw[gT];exact CS.imp λh=>by simp only;omega
theorem L6 {W:List (Nat×Nat)}:Sx Ss (lG (Bk A B)) (A.length+B.length+3) W (Y6 F) (λ_=>0):=by
 refine⟨λx l=>⟨Mq hA hB l,rfl⟩,λx l p w=> ?_,λ_ _=>rfl⟩;have q:x<(Bk A B).length:=by rw[yh];exact l
 rw[IF q] at w;obtain⟨a,z,rfl⟩:=aC.1 w;have:=((H7 hA hB (bq q)).1.ok a z).1;exact aC.2 ⟨a.aS.toNat,eH.2 af,by show((a.aS.toNat:Int),0)=(a.aS,0);congr 1;omega⟩
theorem c438 {h:bQ} (H:HM h 1 Ss) (hF:F<=300) (hAl:A.length<=1000) (YH:B.length<=1000):∃f,f438 h ⟨[⟨0,[]⟩]⟩ A B=some (f,true)/\YG F A B f/\∀P,(∀i,i<=A.length->A.take i∈P)->(∀i,i<B.length->B.take i∈P)->Ep f P:=by
 have cA:=sw (T:=1) af hA ⟨jo 0,af⟩;have cB:=sw (T:=1) af hB ⟨jo 0,af⟩;have G:=gq A 0;have lB:=gq B 0;have U:f442 [⟨0,[]⟩] h.Types h.cD [] [] []=some ((),ids 0 1,[0],[[]]):=by rw[Zq (fr:=0) rfl rfl rfl ah (λx D=>by simp at D;subst D;exact⟨ah,λa ha=>by cases ha⟩)];rfl
 have V:f442 (qC A 0).aj h.Types h.cD (ids 0 1) [0] [[]]=some ((),ids 0 1++ids 1 (A.length+1),[0]++(qC A 0).aj.map (·.cO),[[]]++(qC A 0).aj.map λx=>y6 1 x.bC):=by rw[Zq (fr:=1) (qa _ _) rfl rfl af (cA.small af af),G]
 have a3:f442 (qC B 0).aj h.Types h.cD (ids 0 1++ids 1 (A.length+1)) ([0]++(qC A 0).aj.map (·.cO)) ([[]]++(qC A 0).aj.map λx=>y6 1 x.bC)=
   some ((),ids 0 (A.length+B.length+3),(Bk A B).map (·.cO),(Bk A B).map (·.bC)):=by
  rw[Zq (fr:=A.length+2) (by simp[qa];omega) (by simp[G]) (by simp[G]) af (cB.small af af),lB];have e1:ids 0 1++ids 1 (A.length+1)++ids (A.length+2) (B.length+1)=ids 0 (A.length+B.length+3):=by have x1:=GI 0 1 (A.length+1);have x2:=GI 0 (1+(A.length+1)) (B.length+1);rw[gv] at x1 x2;have x3:1+(A.length+1)=A.length+2:=af;rw[x1];rw[x3] at x2⊢;rw[x2];congr 1;omega
  rw[e1];have e2:[0]++(qC A 0).aj.map (·.cO)++(qC B 0).aj.map (·.cO)=(Bk A B).map (·.cO):=by unfold Bk;simp[Jw,kg]
  have e3:[[]]++((qC A 0).aj.map λx=>y6 1 x.bC)++((qC B 0).aj.map λx=>y6 (A.length+2) x.bC)=(Bk A B).map (·.bC):=by unfold Bk;simp[Jw,kg]
  rw[e2,e3]
 have I:=yh (A:=A) (B:=B);have O:JI 1 (AO F (A.length+B.length+3)) Ss (lG (Bk A B)) (A.length+B.length+3) [] [] (ids 0 (A.length+B.length+3)) ((Bk A B).map (·.cO)) ((Bk A B).map (·.bC)) id (λ_=>0):=by
  refine JI.init to0.refl rfl (by simpa using I) (by simpa using I) (λx D=> ?_) (λx D=> ?_) (λx _=>rfl) (λx _=>rfl)
  .have q:x<(Bk A B).length:=af;rw[lz q,(H7 hA hB (bq q)).2];omega
  .have q:x<(Bk A B).length:=af;rw[lz q];exact(H7 hA hB (bq q)).1
 have z:(A.length+B.length+3) *F<=400000000:=by have:=tZ (by omega:A.length+B.length+3<=10000) hF;omega
 have e0:(0:Int)=((0:Nat):Int):=rfl;have w1:((ids 0 1).length:Int)=((1:Nat):Int):=by rw[qa]
 have w2:((ids 0 1++ids 1 (A.length+1)).length:Int)=((A.length+2:Nat):Int):=by simp[qa];omega
 rcases c443 H af (by omega:0<A.length+B.length+3) (by omega:1<A.length+B.length+3) z O with⟨p1,t1,r1,K,d1,j1,R⟩|⟨_,l⟩
 .rcases c443 H af (by omega:1<A.length+B.length+3) (by omega:A.length+2<A.length+B.length+3) z R with⟨p2,t2,r2,L,d2,j2,S⟩|⟨_,l⟩
  .rcases c443 H af (by omega:1+A.length<A.length+B.length+3) (by omega:A.length+2+B.length<A.length+B.length+3) z S with⟨p3,t3,r3,N,d3,j3,w⟩|⟨_,l⟩
   .obtain⟨p4,g⟩:=c444 (TL:=h.Types) (FL:=h.cD) (d:=d3) w.la w.lt w.ao w.pi.rl w.pi.rr af af (by omega:0<A.length+B.length+3) w.pi;obtain⟨s1,s2⟩:=eq_shr hA hB (w.uni (eqL_bd hA hB));refine⟨_,e438 ?_,s1,s2⟩;have v1:IntKind.wrap .i64 (((1:Nat):Int)+(A.length:Int))=((1+A.length:Nat):Int):=by rw[ko af af];omega
    have v2:IntKind.wrap .i64 (((A.length+2:Nat):Int)+(B.length:Int))=((A.length+2+B.length:Nat):Int):=by rw[ko af af];omega
    rw[e425 rfl,ak,c426 af,ak,ak,c426 af,ak,U,gy,V,gy,a3,gy,w1,w2,v1,v2,e0,j1,gy,cond_neg (by rfl),j2,gy,cond_neg (by rfl),j3,gy,cond_neg (by rfl),g,gy]
   .exact(l (Y6 F) _ Hw (L6 hA hB)).elim
  .exact(l (Y6 F) _ Hw (L6 hA hB)).elim
 .exact(l (Y6 F) _ Hw (L6 hA hB)).elim
end
