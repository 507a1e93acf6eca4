/- The least well-typed feature structure (the reference's Infe. -/
import Derived.Test.YthppjmoncapdfaaGreatDoorClXk
set_option linter.all false
open List (replicate)
namespace Go.Proofs.YthppjmoncapdfaaGreatDoor.cl.pf
open Go Go.AM
def c471 {a b:List Int} (D:a.length=b.length) (hn:a.length<=1000000):f471 a b=some (decide (a=b)):=by
 have key:∀(k i:Nat),a.length=i+k->Pe a b (i:Int)=some (decide (a.drop i=b.drop i)):=by intro k;induction k with
  |zero=>intro i w;refine ack ?_;rw[cond_neg (by rw[bP];omega),mU af,mU af];simp
  |succ k z=>
   intro i w;have l:i<a.length:=af;have q:i<b.length:=af;refine ack ?_;rw[cond_pos (by rw[bH];omega),bS l,bS q,bp af,z (i+1) af,kW l,kW q];by_cases e:a[i]=b[i]
   .rw[cond_neg (by rw[x8];exact e)];simp only[dN,e,gD]
   .rw[cond_pos (by rw[j0];exact e)];simp only[dN,e,false_and,tV]
 exact e471 (key a.length 0 af)
section
variable {h:bR} {T F:Nat} {sb:Int->Int->Prop} {bW:Int->Int} {val:Int->Int->Int} (H:HV h T F sb bW val) {f:FSt} (hf:Can T F f) (hn:f.aj.length<=100000) (hT:T<=1000) (hF:F<=1000)
def Zh (sb:Int->Int->Prop) (bW:Int->Int) (val:Int->Int->Int) (old l:List Int) (n:Nat) (a:bY):Prop:=sb (bW a.aT) (l.getD n 0)/\∃t,sb (old.getD n 0) t/\sb t (l.getD n 0)/\sb (val t a.aT) (l.getD a.To.toNat 0)
def UpT (sb:Int->Int->Prop) (N:Nat) (a b:List Int):Prop:=∀n,n<N->sb (a.getD n 0) (b.getD n 0)
include H hf hn hF
theorem Zh.up {old w l:List Int} (z:UpT sb f.aj.length w l) {n:Nat} (q:n<f.aj.length) {a:bY} (L:a∈f.aj[n].bD) (h:Zh sb bW val old w n a):Zh sb bW val old l n a:=by obtain⟨D,t,G,I,K⟩:=h;obtain⟨_,N,_⟩:=arcN H hf hn hF q L;exact⟨H.hm.to.trans D (z n q),t,G,H.hm.to.trans I (z n q),H.hm.to.trans K (z _ af)⟩
theorem c477 {tl:List Int} (S:TS T sb bW val f tl) {n:Nat} (w:n<f.aj.length) {a:bY} (ha:a∈f.aj[n].bD):
  (∃G,f477 h (n:Int) a tl=some (true,G)/\TS T sb bW val f G/\UpT sb f.aj.length tl G/\Zh sb bW val tl G n a)\/
  ((∃G,f477 h (n:Int) a tl=some (false,G))/\∀z,BS sb bW val f z->False):=by
 obtain⟨q,hto,O⟩:=arcN H hf hn hF w ha;obtain⟨t,ht⟩:=eN hto.1;have I:t<f.aj.length:=af;have V:a.To.toNat=t:=af;obtain⟨i1,i2⟩:=H.int a.aT q.1 q.2;have L:n<tl.length:=by rw[S.len];exact w
 have hfl:=H.fl;have r:=S.rg n w;have R:∀z,BS sb bW val f z->sb (bW a.aT) (z n):=λz l=>((l n w).2 _ O).1
 rcases H.hm.mt _ _ r.1 r.2 i2.1 i2.2 with⟨m,m1,m2,N,m4,m5⟩|⟨m,m1,m2,N⟩
 .have S1:=S.raise H w N m4 m5 R;have D:t<(tl.set n m).length:=by rw[S1.len];exact I
  have mr:=H.hm.to.rr N;obtain⟨_,v1,v2⟩:=H.vl m a.aT mr.1 mr.2 q.1 q.2 m4;have r1:=S1.rg t I;have e1:(tl.set n m).getD n 0=m:=by rw[eG,az ⟨rfl,L⟩]
  have U:∀z,BS sb bW val f z->sb (val m a.aT) (z t):=λz l=>by have:=((l n w).2 _ O).2;rw[V] at this;have h2:=S1.dK z l n w;rw[e1] at h2;exact H.hm.to.trans (H.mono _ _ _ q.1 q.2 m4 h2) this
  have up1:UpT sb f.aj.length tl (tl.set n m):=λx K=>by
   rw[eG];by_cases e:n=x
   .rw[az ⟨e,by rw[<-e];exact L⟩,<-e];exact N
   .rw[au (λh=>e h.1)];exact H.hm.to.refl (S.rg x K).1 (S.rg x K).2
  rcases H.hm.mt _ _ r1.1 r1.2 v2.1 v2.2 with⟨u,u1,u2,u3,u4,u5⟩|⟨u,u1,u2,u3⟩
  .have S2:=S1.raise H I u3 u4 u5 U;have up2:UpT sb f.aj.length (tl.set n m) ((tl.set n m).set t u):=λx K=>by
    rw[eG (tl.set n m)];by_cases e:t=x
    .rw[az ⟨e,by rw[<-e];exact D⟩,<-e];exact u3
    .rw[au (λh=>e h.1)];exact H.hm.to.refl (S1.rg x K).1 (S1.rg x K).2
   refine .inl ⟨(tl.set n m).set t u,e477 ?_,S2,λx K=>H.hm.to.trans (up1 x K) (up2 x K),?_⟩
   .rw[qH L,wR q.1 af,i1,m2,ak,cond_neg (by rfl),qH L,v1,ak,ht,aR n];dsimp only;rw[qH D,u2,ak,qH D,aR]
   .have:=up2 n w;rw[e1] at this;refine⟨H.hm.to.trans m4 this,m,N,this,?_⟩;rw[V,eG,az ⟨rfl,D⟩];exact u4
  .refine .inr ⟨⟨(tl.set n m).set t u,e477 ?_⟩,λz l=>u3 _ (S1.dK z l t I) (U z l)⟩;rw[qH L,wR q.1 af,i1,m2,ak,cond_neg (by rfl),qH L,v1,ak,ht,aR n];dsimp only;rw[qH D,u2,ak,qH D,aR]
 .refine .inr ⟨⟨tl,e477 ?_⟩,λz l=>N _ (S.dK z l n w) (R z l)⟩;rw[qH L,wR q.1 af,i1,m2,ak,cond_pos (by rfl)]
theorem h441_14 {old:List Int} {o4:FSt} {n:Nat} (z:n<f.aj.length):∀(xs:List bY) (k:Nat) (l:List Int),f.aj[n].bD.drop k=xs->TS T sb bW val f l->UpT sb f.aj.length old l->(∀a∈f.aj[n].bD.take k,Zh sb bW val old l n a)->
  (∃q,TS T sb bW val f q/\UpT sb f.aj.length old q/\UpT sb f.aj.length l q/\(∀a∈f.aj[n].bD,Zh sb bW val old q n a)/\∀r,vV old ((n+1:Nat):Int) h f o4 q=some r->vW old (n:Int) f.aj[n].bD (k:Int) h f o4 l=some r)\/
  (vW old (n:Int) f.aj[n].bD (k:Int) h f o4 l=some (⟨[]⟩,false)/\∀τ,BS sb bW val f τ->False):=by
 have hal:=(hf.ao (br z)).len;intro xs;induction xs with
 |nil=>intro k l w S O N;rw[gd (iq w)] at N;refine .inl ⟨l,S,O,λx G=>H.hm.to.refl (S.rg x G).1 (S.rg x G).2,N,λr L=>Nc ?_⟩;rw[bq w,aA,bp af];exact L
 |cons a xs ih=>
  intro k l w S O N;have ha:=aI (bA w);rcases c477 H hf hn hF S z ha with⟨K,R,S1,u1,p1⟩|⟨⟨K,R⟩,I⟩
  .have V:Zh sb bW val old K n a:=by
    obtain⟨q1,t,q2,q3,q4⟩:=p1;exact⟨q1,t,H.hm.to.trans (O n z) q2,q3,q4⟩
   have hu1:UpT sb f.aj.length old K:=λx G=>H.hm.to.trans (O x G) (u1 x G)
   have step:∀r,vW old (n:Int) f.aj[n].bD ((k+1:Nat):Int) h f o4 K=some r->vW old (n:Int) f.aj[n].bD (k:Int) h f o4 l=some r:=λr L=>by refine Nc ?_;rw[bf w,ai,aQ w,R,r6,cond_neg (by rfl),aX w af];exact L
   rcases ih (k+1) K (aH w) S1 hu1 (λb D=>by
    rw[cr,bA w] at D;rcases bw.1 D with D|D
    .exact Zh.up H hf hn hF u1 z (uK D) (N b D)
    .simp at D;subst D;exact V) with⟨c2,S2,u2,u3,p2,U⟩|⟨U,I⟩
   .exact .inl ⟨c2,S2,u2,λx G=>H.hm.to.trans (u1 x G) (u3 x G),p2,λr L=>step _ (U r L)⟩
   .exact .inr ⟨step _ U,I⟩
  .refine .inr ⟨Nc ?_,I⟩;rw[bf w,ai,aQ w,R,r6,cond_pos (by rfl)]
theorem h441_10 {old:List Int} {o4:FSt}:∀(k i:Nat) (l:List Int),f.aj.length=i+k->TS T sb bW val f l->UpT sb f.aj.length old l->(∀n,(w:n<f.aj.length)->n<i->∀a∈f.aj[n].bD,Zh sb bW val old l n a)->
  (∃q,TS T sb bW val f q/\UpT sb f.aj.length old q/\(∀n,(w:n<f.aj.length)->∀a∈f.aj[n].bD,Zh sb bW val old q n a)/\∀r,(Option.bind (f471 old q) λK=>wF (!K) h f o4 q)=some r->vV old (i:Int) h f o4 l=some r)\/
  (vV old (i:Int) h f o4 l=some (⟨[]⟩,false)/\∀τ,BS sb bW val f τ->False):=by
 intro k;induction k with
 |zero=>intro i l V S R O;refine .inl ⟨l,S,R,λn w=>O n w af,λr I=>Wn ?_⟩;rw[cond_neg (by rw[bP];omega)];exact I
 |succ k ih=>
  intro i l V S R O;have G:i<f.aj.length:=af;have step:∀r,vW old (i:Int) f.aj[i].bD 0 h f o4 l=some r->vV old (i:Int) h f o4 l=some r:=λr I=>by refine Wn ?_;rw[cond_pos (by rw[bH];omega),bS G];exact I
  rcases h441_14 H hf hn hF (old:=old) (o4:=o4) G f.aj[i].bD 0 l rfl S R (λa D=>by cases D) with⟨U,S1,u1,u2,p1,L⟩|⟨L,z⟩
  .rcases ih (i+1) U af S1 u1 (λn w hlt a D=>by
    by_cases e:n=i
    .subst e;exact p1 a D
    .exact Zh.up H hf hn hF u2 w D (O n w af a D)) with⟨c2,S2,u3,p2,N⟩|⟨N,z⟩
   .exact .inl ⟨c2,S2,u3,p2,λr I=>step _ (L _ (N r I))⟩
   .exact .inr ⟨step _ (L _ N),z⟩
  .exact .inr ⟨step _ L,z⟩
omit H hf hF in
theorem h441_21 {o4:FSt} {tl:List Int} (q:tl.length=f.aj.length):∀(k i:Nat),f.aj.length=i+k->Hs (i:Int) f o4 tl ((zn f tl).aj.take i)=some (zn f tl,true):=by intro k;induction k with
 |zero=>intro i w;refine Wo ?_;rw[cond_neg (by rw[bP];omega),gd (by rw[vT q];omega)]
 |succ k z=>intro i w;have l:i<f.aj.length:=af;refine Wo ?_;rw[cond_pos (by rw[bH];omega),qH af,bS l,bU _ (by rw[fI];omega) ah af,bp af];have:=z (i+1) af;rw[cr,D6 q l] at this;exact this
theorem h441_7 {o4:FSt}:∀(M:Nat) (l:List Int),room T l<=M->TS T sb bW val f l->Zf T sb bW val f (wF true h f o4 l):=by
 intro M;induction M using Nat.strongRecOn with
 |ind M ih=>
 intro l hM S;have step:∀r,vV l 0 h f o4 l=some r->wF true h f o4 l=some r:=λr R=>by refine ab3 ?_;rw[ai,bU _ ah (by rw[S.len];omega) af,dh];exact R
 rcases h441_10 H hf hn hF (old:=l) (o4:=o4) f.aj.length 0 l af S (λx V=>H.hm.to.refl (S.rg x V).1 (S.rg x V).2) (λn _ L=>absurd L af) with⟨D,S1,u1,p1,K⟩|⟨K,O⟩
 .have z:=c471 (a:=l) (b:=D) (by rw[S.len,S1.len]) (by rw[S.len];omega)
  rcases WS (T:=T) (a:=l) (b:=D) (by rw[S.len,S1.len]) (λn q=>by
   rw[S.len] at q
   exact⟨(S.rg n q).1,H.le _ _ (u1 n q),(S1.rg n q).2⟩) with e|e
  .subst e;refine .inl ⟨l,step _ (K _ ?_),S,λn q p U=> ?_⟩
   .rw[z,ak];simp only[uc,gC];refine ab3 ?_;rw[aA];exact h441_21 (o4:=o4) hn S.len f.aj.length 0 af
   .rw[qu q] at U;obtain⟨a,ha,rfl⟩:=aD.1 U;obtain⟨G,t,I,q3,q4⟩:=p1 n q a ha;have et:=H.hm.to.anti q3 I;rw[et] at q4;exact⟨G,q4⟩
  .have N:l≠D:=λe2=>by subst e2;omega
   have:=ih (room T D) af D (aU _) S1;have w:∀r,wF true h f o4 D=some r->wF true h f o4 l=some r:=λr R=>step _ (K _ (by rw[z,ak,uj N,mW];exact R))
   rcases this with⟨Sl,G,I⟩|⟨G,I⟩
   .exact .inl ⟨Sl,w _ G,I⟩
   .exact .inr ⟨w _ G,I⟩
 .exact .inr ⟨step _ K,O⟩
theorem c441:Zf T sb bW val f (f441 h f):=by
 have S:=TS.init H hf hn hF;have D:=h441_7 H hf hn hF (o4:=⟨[]⟩) _ (f.aj.map (·.cQ)) (aU _) S;have key:∀r,wF true h f ⟨[]⟩ (f.aj.map (·.cQ))=some r->∀(k i:Nat),f.aj.length=i+k->O5 (i:Int) h f ⟨[]⟩ ((f.aj.take i).map (·.cQ))=some r:=by intro r q k;induction k with
  |zero=>intro i G;have e:i=f.aj.length:=af;subst e;refine ab2 ?_;rw[cond_neg (by rw[bP];omega),fC];exact q
  |succ k I=>intro i G;have l:i<f.aj.length:=af;refine ab2 ?_;rw[cond_pos (by rw[bH];omega),bS l,bU _ aF ah af,bp af];have:=I (i+1) af;rw[cr,aM l,bM] at this;exact this
 have step:∀r,wF true h f ⟨[]⟩ (f.aj.map (·.cQ))=some r->f441 h f=some r:=λr q=>e441 (key r q f.aj.length 0 af)
 rcases D with⟨tl,w,z⟩|⟨w,z⟩
 .exact .inl ⟨tl,step _ w,z⟩
 .exact .inr ⟨step _ w,z⟩
end
def WT (sb:Int->Int->Prop) (bW:Int->Int) (val:Int->Int->Int) (f:FSt):Prop:=∀n,n<f.aj.length->Gv sb bW val f (ny f) n
structure Xt (T F:Nat) (sb:Int->Int->Prop) (bW:Int->Int) (val:Int->Int->Int) (A B f:FSt):Prop where
 can:Can T F f
 wt:WT sb bW val f
 l:Le sb A f
 r:Le sb B f
 least:∀C,Can T F C->WT sb bW val C->Le sb A C->Le sb B C->Le sb f C
 Ds:∀P,EB A P->EB B P->EB f P
section
variable {h:bR} {T F:Nat} {sb:Int->Int->Prop} {bW:Int->Int} {val:Int->Int->Int} (H:HV h T F sb bW val)
include H
theorem Xt.uniq {A B f g:FSt} (l:Xt T F sb bW val A B f) (q:Xt T F sb bW val A B g):f=g:=
 Le.anti H.hm.to l.can q.can (l.least g q.can q.wt q.l q.r) (q.least f l.can l.wt l.l l.r)
theorem VX {L C:FSt} (D:Can T F L) (z:Can T F C) (I:WT sb bW val C) {m:Nat->Nat} (q:CH sb (mJ L) 0 (mJ C) 0 m):BS sb bW val L (λx=>ny C (m x)):=λn hn=>by have w:=D.Jq hn;have l:=q.2 n w;refine⟨l.1,λp G=> ?_⟩;exact I (m n) (z.RV (q.Jq w)) _ (l.2 p G)
theorem QM {A B L:FSt} (l:Lub T F sb A B L) {res:Option (FSt×Bool)} (hr:Zf T sb bW val L res):
  (∃f,res=some (f,true)/\Xt T F sb bW val A B f)\/(res=some (⟨[]⟩,false)/\∀C,Can T F C->WT sb bW val C->Le sb A C->Le sb B C->False):=by
 rcases hr with⟨tl,e,S,hs⟩|⟨e,V⟩
 .have q:=S.len;have K:Can T F (zn L tl):=l.can.zn q S.rg;have U:Le sb L (zn L tl):=by
   refine⟨id,rfl,λi z=>⟨?_,λp w=> ?_⟩⟩
   .show sb (ny L i) (ny (zn L tl) i);rw[Ct q (l.can.RV z)];exact S.up i (l.can.RV z)
   .show p∈iY (zn L tl) i;rw[yN q];exact w
  refine .inl ⟨zn L tl,e,K,λn hn p w=> ?_,Le.trans H.hm.to l.l U,Le.trans H.hm.to l.r U,λC I hw D G=> ?_,λP hA hB k hk=> ?_⟩
  .rw[vT q] at hn;rw[yN q] at w;have:=hs n hn p w;rw[Ct q hn,Ct q (l.can.bd n hn p w)];exact this
  .obtain⟨m,O⟩:=l.least C I D G;have R:=VX H l.can I hw O;refine⟨m,O.1,λi z=> ?_⟩;have z:rX (iY L) 0 i:=by
    have:rX (iY (zn L tl)) 0 i:=z
    rw[yN q] at this;exact this
   have N:=l.can.RV z;refine⟨?_,λp w=> ?_⟩
   .show sb (ny (zn L tl) i) _;rw[Ct q N];exact S.dK _ R i N
   .have w:p∈iY (zn L tl) i:=w;rw[yN q] at w;exact(O.2 i z).2 p w
  .rw[vT q] at hk;obtain⟨π,D,G⟩:=l.Ds P hA hB k hk;exact⟨π,D,by rw[rty_at q];exact G⟩
 .refine .inr ⟨e,λC I hw D G=> ?_⟩;obtain⟨m,O⟩:=l.least C I D G;exact V _ (VX H l.can I hw O)
def TUni (T F:Nat) (sb:Int->Int->Prop) (bW:Int->Int) (val:Int->Int->Int) (A B:FSt) (res:Option (FSt×Bool)):Prop:=
 (∃f,res=some (f,true)/\Xt T F sb bW val A B f)\/(res=some (⟨[]⟩,false)/\∀C,Can T F C->WT sb bW val C->Le sb A C->Le sb B C->False)
variable {A B:FSt} (hA:Can T F A) (hB:Can T F B) (hT:T<=1000) (hF:F<=300) {P Q:Nat} (hn:A.aj.length+B.aj.length<=100000)
theorem Can.Ds {f:FSt} (hf:Can T F f):∃P,EB f P/\P.length<=f.aj.length:=by
 have:∀k,k<f.aj.length->∃π,zN f π=some k:=λk l=>by have K:=hf.Jq l;clear l;induction K with
  |root=>exact⟨[],rfl⟩
  | @step n p hn I w=>obtain⟨π,hπ⟩:=w;exact⟨π++[p.1],wL.2 ⟨n,hπ,(sQ (hf.yh n)).2 I⟩⟩
 have key:∀N,N<=f.aj.length->∃P:List (List Int),P.length<=N/\∀k,k<N->∃π∈P,zN f π=some k:=by intro N;induction N with
  |zero=>intro _;exact⟨[],aU _,λk l=>absurd l af⟩
  |succ N w=>
   intro O;obtain⟨P,z,q⟩:=w af;obtain⟨π,hπ⟩:=this N af;refine⟨π::P,by simp;omega,λk l=> ?_⟩;by_cases e:k=N
   .subst e;exact⟨π,by simp,hπ⟩
   .obtain⟨L,D,G⟩:=q k af;exact⟨L,by simp[D],G⟩
 obtain⟨P,z,q⟩:=key f.aj.length (aU _);exact⟨P,q,z⟩
include hA hB in
theorem Lub.size {L:FSt} (w:Lub T F sb A B L):L.aj.length<=A.aj.length+B.aj.length:=by obtain⟨P,l,z⟩:=Can.Ds H hA;obtain⟨Q,q,D⟩:=Can.Ds H hB;have:=(w.Ds (P++Q) (l.mono λπ h=>dV _ h) (q.mono λπ h=>fN _ h)).le;rw[cS] at this;omega
include hA hB hT hF hn
theorem c419:TUni T F sb bW val A B (f419 h A B):=by
 rcases c433 H.hm hA hB af af with⟨L,q,w⟩|⟨q,z⟩
 .have K:=w.size H hA hB;have step:∀r:FSt×Bool,f434 h L=some r->f419 h A B=some r:=λr I=>by
   refine e419 ?_;rw[q,ak,cond_neg (by rfl),I,ak]
  rcases QM H w (c434 H w.can af hT af) with⟨f,e,l⟩|⟨e,l⟩
  .exact .inl ⟨f,step _ e,l⟩
  .exact .inr ⟨step _ e,l⟩
 .refine .inr ⟨e419 ?_,λC G _ D l=>z C G D l⟩;rw[q,ak,cond_pos (by rfl)]
theorem c431:TUni T F sb bW val A B (f431 h A B):=by
 rcases c440 H.hm hA hB af af with⟨L,q,w⟩|⟨q,z⟩
 .have K:=w.size H hA hB;have step:∀r:FSt×Bool,f441 h L=some r->f431 h A B=some r:=λr I=>by
   refine e431 ?_;rw[q,ak,cond_neg (by rfl),I,ak]
  rcases QM H w (c441 H w.can af af) with⟨f,e,l⟩|⟨e,l⟩
  .exact .inl ⟨f,step _ e,l⟩
  .exact .inr ⟨step _ e,l⟩
 .refine .inr ⟨e431 ?_,λC G _ D l=>z C G D l⟩;rw[q,ak,cond_pos (by rfl)]
theorem Vg:f419 h A B=f431 h A B:=by
 rcases c419 H hA hB hT hF hn with⟨f,e1,l⟩|⟨e1,l⟩<;>rcases c431 H hA hB hT hF hn with⟨g,w,q⟩|⟨w,q⟩
 .rw[e1,w,l.uniq H q]
 .exact(q f l.can l.wt l.l l.r).elim
 .exact(l g q.can q.wt q.l q.r).elim
 .rw[e1,w]
end
end Go.Proofs.YthppjmoncapdfaaGreatDoor.cl.pf
namespace Go.Proofs.YthppjmoncapdfaaGreatDoor.cl.pf
open Go Go.AM
def wj:Nat->List Int->Int->List Node
 |_,[],t=>[⟨t,[]⟩]
 |k,f::π,t=>⟨0,[⟨f,(k+1:Nat)⟩]⟩::wj (k+1) π t
def qE (π:List Int) (t:Int):FSt:=⟨wj 0 π t⟩
def wO:∀(k:Nat) (π:List Int) (t:Int),(wj k π t).length=π.length+1
 |_,[],_=>rfl
 |k,f::π,t=>by simp only[wj,bg,wO (k+1) π t]
def gv (π:List Int) (t:Int):(qE π t).aj.length=π.length+1:=wO 0 π t
def s6:∀(k:Nat) (π:List Int) (t:Int) (i:Nat),(wj k π t)[i]? =if h:i<π.length then some ⟨0,[⟨π[i],(k+i+1:Nat)⟩]⟩ else if i=π.length then some ⟨t,[]⟩ else none
 |k,[],t,0=>by simp[wj]
 |k,[],t,i+1=>by simp[wj]
 |k,f::π,t,0=>by simp[wj]
 |k,f::π,t,i+1=>by
  simp only[wj,qU,s6 (k+1) π t i,bg,Nat.add_lt_add_iff_right,List.getElem_cons_succ,Nat.add_right_cancel_iff];by_cases h:i<π.length
  .simp only[h,dite_true];congr 4;omega
  .simp only[h,dite_false]
def zV {π:List Int} {t:Int} {i:Nat} (h:i<π.length):iY (qE π t) i=[(π[i],i+1)]:=by
 unfold iY
 have:(qE π t).aj[i]? =some ⟨0,[⟨π[i],(0+i+1:Nat)⟩]⟩:=by show(wj 0 π t)[i]? =_;rw[s6,jY h]
 rw[this];simp[SE]
def qj {π:List Int} {t:Int}:iY (qE π t) π.length=[]:=by
 unfold iY
 have:(qE π t).aj[π.length]? =some ⟨t,[]⟩:=by show(wj 0 π t)[π.length]? =_;rw[s6,dif_neg (tY _),az rfl]
 rw[this];rfl
def ZN {π:List Int} {t:Int} {i:Nat} (h:i<π.length):ny (qE π t) i=0:=by
 unfold ny
 have:(qE π t).aj[i]? =some ⟨0,[⟨π[i],(0+i+1:Nat)⟩]⟩:=by show(wj 0 π t)[i]? =_;rw[s6,jY h]
 rw[this]
def BY {π:List Int} {t:Int}:ny (qE π t) π.length=t:=by
 unfold ny
 have:(qE π t).aj[π.length]? =some ⟨t,[]⟩:=by show(wj 0 π t)[π.length]? =_;rw[s6,dif_neg (tY _),az rfl]
 rw[this]
def VB:∀(k:Nat) (π:List Int) (t:Int),∀x∈wj k π t,∀a∈x.bD,0<=a.To
 |_,[],t,x,l,a,q=>by simp[wj] at l;subst l;cases q
 |k,f::π,t,x,l,a,q=>by
  simp only[wj,aG] at l;rcases l with rfl|l
  .simp at q;subst q;show 0<=((k+1:Nat):Int);omega
  .exact VB (k+1) π t x l a q
def chn_go {T F:Nat} (hT:0<T) {π:List Int} {t:Int} (hπ:∀f∈π,0<=f/\f<(F:Int)) (ht:0<=t/\t<(T:Int)):GO T F (mJ (qE π t)) (qE π t).aj.length:=by
 rw[gv];refine⟨λi q p l=> ?_,λi q=> ?_,λi q p l=> ?_,λi q=> ?_⟩<;>by_cases h:i<π.length
 .have l:p∈iY (qE π t) i:=l;rw[zV h] at l;simp at l;subst l;show i+1<_;omega
 .have l:p∈iY (qE π t) i:=l;have e:i=π.length:=af;rw[e,qj] at l;cases l
 .show zl (iY _ i);rw[zV h];exact C1 _ _
 .have e:i=π.length:=af;show zl (iY _ i);rw[e,qj];exact zl.nil
 .have l:p∈iY (qE π t) i:=l;rw[zV h] at l;simp at l;subst l;exact hπ _ (br h)
 .have l:p∈iY (qE π t) i:=l;have e:i=π.length:=af;rw[e,qj] at l;cases l
 .show 0<=ny _ i/\ny _ i<_;rw[ZN h];omega
 .have e:i=π.length:=af;show 0<=ny _ i/\ny _ i<_;rw[e,BY];exact ht
def chn_vis {π:List Int} {t:Int}:∀(j i k:Nat),π.length=i+j->j<k->nX (iY (qE π t)) k i (List.range i)=List.range (π.length+1):=by intro j;induction j with
 |zero=>
  intro i k l q;have e:i=π.length:=af;obtain⟨k,rfl⟩:∃k',k=k'+1:=⟨k-1,af⟩
  rw[nX,au ah,e,qj,iP];rfl
 |succ j w=>
  intro i k l q;obtain⟨k,rfl⟩:∃k',k=k'+1:=⟨k-1,af⟩
  rw[nX,au ah,zV af,<-iP];exact w (i+1) k af af
def sE {T F:Nat} (hT:0<T) {π:List Int} {t:Int} (hπ:∀f∈π,0<=f/\f<(F:Int)) (ht:0<=t/\t<(T:Int)):Can T F (qE π t):=by refine H6 (by rw[gv];omega) (chn_go hT hπ ht) (VB 0 π t) ?_;rw[gv];exact chn_vis π.length 0 _ af af
def Mq {π:List Int} {t:Int}:∀(i:Nat),i<=π.length->zN (qE π t) (π.take i)=some i:=by intro i;induction i with
 |zero=>intro _;rfl
 |succ i l=>intro q;rw[cr,aM (by omega:i<π.length)];refine wL.2 ⟨i,l af,?_⟩;show zo (iY _ i) _=_;rw[zV af];simp[zo]
def at_take {C:Gr} {n k:Nat} {π:List Int} (h:AU C n π=some k) (i:Nat):∃j,AU C n (π.take i)=some j/\AU C j (π.drop i)=some k:=by rw[<-jq i π,BV,dM] at h;obtain⟨j,l,q⟩:=h;refine⟨j,l,q⟩
def Pr (C:Gr) (π:List Int) (i:Nat):Nat:=(AU C 0 (π.take i)).getD 0
def SQ {C:Gr} {k:Nat} {π:List Int} (h:AU C 0 π=some k) (i:Nat):AU C 0 (π.take i)=some (Pr C π i):=by obtain⟨j,l,_⟩:=at_take h i;unfold Pr;rw[l];rfl
def CK {C:Gr} {k:Nat} {π:List Int} (h:AU C 0 π=some k):Pr C π π.length=k:=by unfold Pr;rw[fC,h];rfl
def uI {C:Gr} (z:Y6 C) {k:Nat} {π:List Int} (h:AU C 0 π=some k) {i:Nat} (D:i<π.length):(π[i],Pr C π (i+1))∈C.sc (Pr C π i):=by have l:=SQ h (i+1);rw[cr,aM D] at l;obtain⟨j,q,w⟩:=wL.1 l;rw[SQ h i] at q;cases q;exact(sQ (z _)).1 w
section
variable {T F:Nat} {sb:Int->Int->Prop} (hT:TO T sb) {π:List Int} {t:Int} (hπ:∀f∈π,0<=f/\f<(F:Int)) (ht:0<=t/\t<(T:Int))
include hT hπ ht
theorem ZM {C:FSt} (q:Can T F C):Le sb (qE π t) C↔∃k,zN C π=some k/\sb t (ny C k):=by
 have w:0<T:=af;have z:=sE (F:=F) w hπ ht;constructor
 .rintro⟨m,I⟩;have e:=Mq (π:=π) (t:=t) π.length (aU _);rw[fC] at e;refine⟨m π.length,IQ z q I e,?_⟩;have:=(I.2 π.length (z.Jq (by rw[gv];omega))).1;have K:(mJ (qE π t)).ty π.length=t:=BY;rw[K] at this;exact this
 .rintro⟨k,G,O⟩;refine⟨Pr (mJ C) π,by simp[Pr,AU],λi L=> ?_⟩;have D:=z.RV L;rw[gv] at D;by_cases h:i<π.length
  .refine⟨?_,λp l=> ?_⟩
   .show sb (ny (qE π t) i) _;rw[ZN h];have N:=Vu (λi _=>q.yh i) _ 0 _ .root (SQ G i);have:=q.go.tp _ (q.RV N);exact hT.top this.1 this.2
   .have l:p∈iY (qE π t) i:=l;rw[zV h] at l;simp at l;subst l;exact uI q.KC G h
  .have e:i=π.length:=af;subst e;refine⟨?_,λp l=> ?_⟩
   .show sb (ny (qE π t) _) _;rw[BY,CK G];exact O
   .have l:p∈iY (qE π t) π.length:=l;rw[qj] at l;cases l
end
def chn_cov {π:List Int} {t:Int} {P:List (List Int)} (h:∀i,i<=π.length->π.take i∈P):EB (qE π t) P:=λk l=>by rw[gv] at l;exact⟨π.take k,h k af,Mq k af⟩
def La (π:List Int) (t:Int):wj 0 π t=(wj 0 π t).take π.length++[⟨t,[]⟩]:=by
 have h:(wj 0 π t).drop π.length=[⟨t,[]⟩]:=by apply kq;intro i;rw[vr,s6];cases i with
  |zero=>simp
  |succ i=>rw[dif_neg af,au af];simp
 rw[<-h,jq]
def c430 {p:List Int} (z:p.length<=1000000) (t:Int):f430 p ⟨[⟨t,[]⟩]⟩=some (qE p t):=by
 refine e430 ?_;have key:∀(k i:Nat),p.length=i+k->OZ p (i:Int) ⟨[⟨t,[]⟩]⟩ ⟨[]⟩ ((wj 0 p t).take i)=some (qE p t):=by intro k;induction k with
  |zero=>intro i q;have e:i=p.length:=af;subst e;refine abU ?_;rw[cond_neg (by rw[bP];omega)];refine abV ?_;rw[cond_pos (by rfl),iC,iC];refine k430_12 ?_;rw[cond_neg (by rfl),bU _ (by rw[fI,wO];omega) ah af,<-La];refine abV ?_;rw[cond_neg (by rfl)];rfl
  |succ k w=>intro i q;have l:i<p.length:=af;refine abU ?_;rw[cond_pos (by rw[bH];omega),bS l,bU _ (by rw[fI,wO];omega) ah af,bp af];have:=w (i+1) af;rw[cr,s6,jY l] at this;simpa using this
 have:=key p.length 0 af;simpa using this
def c426 {p:List Int} (z:p.length<=1000000) (t:Int):f426 p ⟨[⟨t,[]⟩]⟩=some (qE p t):=by
 refine e426 ?_;have key:∀(k i:Nat),p.length=i+k->OV p p (p.length:Int) (i:Int) ⟨[⟨t,[]⟩]⟩ ⟨[]⟩ ((wj 0 p t).take i)=some (qE p t):=by intro k;induction k with
  |zero=>intro i q;have e:i=p.length:=af;subst e;refine abO ?_;rw[cond_neg (by rw[bP];omega)];refine abP ?_;rw[cond_pos (by rfl),iC];refine k426_12 ?_;rw[cond_neg (by rfl),bU _ (by rw[fI,wO];omega) ah af,<-La];refine abP ?_;rw[cond_neg (by rfl)];rfl
  |succ k w=>intro i q;have l:i<p.length:=af;refine abO ?_;rw[cond_pos (by rw[bH];omega),bS l,bU _ (by rw[fI,wO];omega) ah af,bp af];have:=w (i+1) af;rw[cr,s6,jY l] at this;simpa using this
 have:=key p.length 0 af;simpa using this
end Go.Proofs.YthppjmoncapdfaaGreatDoor.cl.pf
namespace Go.Proofs.YthppjmoncapdfaaGreatDoor.cl.pf
open Go Go.AM
def SD (a b:Int):Prop:=a=0/\b=0
def to0:TO 1 SD:=⟨λh=>by have:=h.1;omega,λh=>by have:=h.2;omega,λh l=>⟨af,af⟩,λh l=>⟨h.1,l.2⟩,λh l=>by rw[h.1,h.2],λh l=>⟨rfl,af⟩⟩
def Can.up {T l F:Nat} {f:FSt} (h:Can T F f) (hT:T<=l):Can l F f:=
 ⟨h.ne,⟨h.go.bd,h.go.yh,h.go.ft,λn hn=>⟨(h.go.tp n hn).1,by have:=(h.go.tp n hn).2;omega⟩⟩,h.eq⟩
structure YV (F:Nat) (A B:List Int) (f:FSt):Prop where
 can:Can 1 F f
 at_:∃k,zN f A=some k/\zN f B=some k
 least:∀(C:FSt) (T':Nat) (sb:Int->Int->Prop),TO T' sb->Can T' F C->(∃k,zN C A=some k/\zN C B=some k)->Le sb f C
def YV.uniq {F:Nat} {A B:List Int} {f g:FSt} (l:YV F A B f) (q:YV F A B g):f=g:=
 Le.anti to0 l.can q.can (l.least g 1 SD to0 q.can q.at_) (q.least f 1 SD to0 l.can l.at_)
def YV.le {F T:Nat} {sb:Int->Int->Prop} (hT:TO T sb) {A B:List Int} {f C:FSt} (h:YV F A B f) (l:1<=T) (q:Can T F C):Le sb f C↔∃k,zN C A=some k/\zN C B=some k:=by
 constructor
 .rintro⟨m,w⟩;obtain⟨k,z,D⟩:=h.at_;exact⟨m k,IQ (h.can.up l) q w z,IQ (h.can.up l) q w D⟩
 .exact h.least C T sb hT q
def le_zero {T F:Nat} {sb:Int->Int->Prop} (hT:TO T sb) {f C:FSt} (hf:Can 1 F f) (z:Can T F C) (h:Le SD f (zn C (replicate C.aj.length 0))):Le sb f C:=by
 obtain⟨m,w⟩:=h;have q:(replicate C.aj.length (0:Int)).length=C.aj.length:=ah;have I:Can 1 F (zn C (replicate C.aj.length 0)):=z.zn q λi l=>by rw[aZ,jr,az l];simp
 refine⟨m,w.1,λi l=>⟨?_,λp G=> ?_⟩⟩
 .have K:=hf.go.tp i (hf.RV l);have e:(mJ f).ty i=0:=af;rw[e];have D:=I.RV (w.Jq l);rw[vT q] at D;have:=z.go.tp _ D;exact hT.top this.1 this.2
 .have:=(w.2 i l).2 p G;have e:(mJ (zn C (replicate C.aj.length 0))).sc=(mJ C).sc:=yN q;rw[e] at this;exact this
def ZJ {T F:Nat} {C:FSt} (l:Can T F C):Can 1 F (zn C (replicate C.aj.length 0)):=l.zn ah λi q=>by rw[aZ,jr,az q];simp
def Bv (A B:List Int):List Node:=[⟨0,[]⟩]++(qE A 0).aj.map (JF 1)++(qE B 0).aj.map (JF (A.length+2))
section
variable {F:Nat} {A B:List Int} (hA:∀f∈A,0<=f/\f<(F:Int)) (hB:∀f∈B,0<=f/\f<(F:Int))
theorem yu:(Bv A B).length=A.length+B.length+3:=by unfold Bv;simp[gv];omega
theorem eqL_0:(Bv A B)[0]? =some ⟨0,[]⟩:=rfl
theorem eqL_a {i:Nat} (h:i<A.length+1):(Bv A B)[i+1]? =some (JF 1 ((qE A 0).aj[i]'(by rw[gv];exact h))):=by unfold Bv;rw[eT,List.singleton_append,qU,dD (by simp[gv];omega),dF,aM (by rw[gv];exact h)];rfl
theorem eqL_b {i:Nat} (h:i<B.length+1):(Bv A B)[i+(A.length+2)]? =some (JF (A.length+2) ((qE B 0).aj[i]'(by rw[gv];exact h))):=by
 unfold Bv;rw[ga (by simp[gv]),dF]
 have:i+(A.length+2)-([(⟨0,[]⟩:Node)]++(qE A 0).aj.map (JF 1)).length=i:=by simp[gv]
 rw[this,aM (by rw[gv];exact h)];rfl
theorem EM {x:Nat} (w:x<A.length+B.length+3):x=0\/(∃i,i<A.length+1/\x=i+1)\/∃i,i<B.length+1/\x=i+(A.length+2):=by
 by_cases l:x=0
 .exact .inl l
 .by_cases q:x<A.length+2
  .exact .inr (.inl ⟨x-1,by omega,af⟩)
  .exact .inr (.inr ⟨x-(A.length+2),by omega,af⟩)
include hA hB
theorem Io {x:Node} (L:x∈Bv A B):AO F (A.length+B.length+3) x.bD/\x.cQ=0:=by
 obtain⟨j,l⟩:=gE.1 L;have w:=(bF.1 l).1;rw[yu] at w;have cA:=sE (T:=1) af hA ⟨js 0,af⟩;have G:=sE (T:=1) af hB ⟨js 0,af⟩;rcases EM w with rfl|⟨i,q,rfl⟩|⟨i,q,rfl⟩
 .rw[eqL_0] at l;cases l;exact⟨⟨List.Pairwise.nil,λa K=>by cases K⟩,rfl⟩
 .rw[eqL_a q] at l;cases l;have z:(qE A 0).aj[i]'(by rw[gv];exact q)∈(qE A 0).aj:=br _;have D:=cA.ao z;have I:=cA.Pw z;have N:=gv A 0;have O:=gv B 0;refine⟨D.sh af,?_⟩;unfold JF;simp only;omega
 .rw[eqL_b q] at l;cases l;have z:(qE B 0).aj[i]'(by rw[gv];exact q)∈(qE B 0).aj:=br _;have D:=G.ao z;have I:=G.Pw z;have N:=gv A 0;have O:=gv B 0;refine⟨D.sh af,?_⟩;unfold JF;simp only;omega
theorem VI {i:Nat} (q:i<A.length+1):(lG (Bv A B)).sc (i+1)=(iY (qE A 0) i).map λp=>(p.1,p.2+1):=by
 have w:i+1<(Bv A B).length:=by rw[yu];omega
 have e:=(bF.1 (eqL_a (A:=A) (B:=B) q)).2;have cA:=sE (T:=1) af hA ⟨js 0,af⟩;have l:i<(qE A 0).aj.length:=by rw[gv];exact q
 rw[IP w,e,qu l];exact R6 (cA.ao (br l))
theorem VJ {i:Nat} (q:i<B.length+1):(lG (Bv A B)).sc (i+(A.length+2))=(iY (qE B 0) i).map λp=>(p.1,p.2+(A.length+2)):=by
 have z:i+(A.length+2)<(Bv A B).length:=by rw[yu];omega
 have e:=(bF.1 (eqL_b (A:=A) (B:=B) q)).2;have w:=sE (T:=1) af hB ⟨js 0,af⟩;have l:i<(qE B 0).aj.length:=by rw[gv];exact q
 rw[IP z,e,qu l];exact R6 (w.ao (br l))
theorem MA {x:Nat} (q:x<A.length+B.length+3):(lG (Bv A B)).ty x=0:=by
 have l:x<(Bv A B).length:=by rw[yu];exact q
 rw[acu l];exact(Io hA hB (br l)).2
theorem eqL_sc0:(lG (Bv A B)).sc 0=[]:=rfl
theorem eqL_bd:Bd (lG (Bv A B)).sc (A.length+B.length+3):=λx z p q=>by
 have l:x<(Bv A B).length:=by rw[yu];exact z
 rw[IP l] at q;obtain⟨a,w,rfl⟩:=aD.1 q;have:=((Io hA hB (br l)).1.ok a w).2;show a.To.toNat<_;omega
abbrev eqW (A B:List Int):List (Nat×Nat):=[(0,1),(1,A.length+2),(1+A.length,A.length+2+B.length)]
theorem eq_sol {C:FSt} {V:Nat} (S:Can V F C) (h:∃k,zN C A=some k/\zN C B=some k):
  SH SD (lG (Bv A B)) (A.length+B.length+3) (eqW A B) (mJ (zn C (replicate C.aj.length 0))) (λx=>if x=0 then 0 else if x<A.length+2 then Pr (mJ C) A (x-1) else Pr (mJ C) B (x-(A.length+2))):=by
 obtain⟨k,D,G⟩:=h;have N:(replicate C.aj.length (0:Int)).length=C.aj.length:=ah;have I:(mJ (zn C (replicate C.aj.length 0))).sc=(mJ C).sc:=yN N;have K:∀y,(mJ (zn C (replicate C.aj.length 0))).ty y=0:=λy=>by
  show ny _ y=0;by_cases U:y<C.aj.length
  .rw[Ct N U,aZ,jr,az U];rfl
  .unfold ny;rw[fB (by rw[vT N];omega)]
 have R:Pr (mJ C) A 0=0:=rfl;have b0:Pr (mJ C) B 0=0:=rfl;refine⟨λx O=>⟨MA hA hB O,K _⟩,λx O p z=> ?_,λp z=> ?_⟩
 .rw[I];rcases EM O with rfl|⟨i,L,rfl⟩|⟨i,L,rfl⟩
  .rw[eqL_sc0 hA hB] at z;cases z
  .rw[VI hA hB L] at z;obtain⟨q,w,rfl⟩:=aD.1 z;by_cases l:i<A.length
   .rw[zV l] at w;simp at w;subst w;show(A[i],if i+1+1=0 then 0 else if i+1+1<A.length+2 then _ else _)∈(mJ C).sc (if i+1=0 then 0 else if i+1<A.length+2 then _ else _);rw[au af,az af,au af,az af];exact uI S.KC D l
   .have e:i=A.length:=af;rw[e,qj] at w;cases w
  .rw[VJ hA hB L] at z;obtain⟨q,w,rfl⟩:=aD.1 z;by_cases l:i<B.length
   .rw[zV l] at w;simp at w;subst w;show(B[i],if i+1+(A.length+2)=0 then 0 else if i+1+(A.length+2)<A.length+2 then _ else _)∈(mJ C).sc (if i+(A.length+2)=0 then 0 else if i+(A.length+2)<A.length+2 then _ else _);rw[au af,au af,au af,au af,oC,oC];exact uI S.KC G l
   .have e:i=B.length:=af;rw[e,qj] at w;cases w
 .simp only[eqW,aG,eL,eS] at z;rcases z with rfl|rfl|rfl
  .simp[R]
  .simp[R,b0]
  .show(if 1+A.length=0 then 0 else if 1+A.length<A.length+2 then _ else _)=(if A.length+2+B.length=0 then 0 else if A.length+2+B.length<A.length+2 then _ else _)
   rw[au af,az af,au af,au af,C7,C7,CK D,CK G]
theorem eq_shr {G:Gr} {q:Nat->Nat} (w:Uni 1 F SD (lG (Bv A B)) (A.length+B.length+3) (eqW A B) G q):YV F A B (lM G (A.length+B.length+3) (q 0))/\
  ∀P,(∀i,i<=A.length->A.take i∈P)->(∀i,i<B.length->B.take i∈P)->EB (lM G (A.length+B.length+3) (q 0)) P:=by
 have N:0<A.length+B.length+3:=af;have hc:=w.can N;have cA:=sE (T:=1) af hA ⟨js 0,af⟩;have cB:=sE (T:=1) af hB ⟨js 0,af⟩;have q0:=w.sol.eq (0,1) ah;have q1:=w.sol.eq (1,A.length+2) ah;have q2:=w.sol.eq (1+A.length,A.length+2+B.length) ah;simp only at q0 q1 q2
 have S:=w.part to0 N (A:=mJ (qE A 0)) (s:=0) (e:=λi=>i+1) (λi I=>by
  have l:=cA.RV I;rw[gv] at l;refine⟨by show i+1<_;omega,?_,VI hA hB l⟩;have:=cA.Pw (br (by rw[gv];exact l:i<(qE A 0).aj.length));have e2:(mJ (qE A 0)).ty i=_:=ox (by rw[gv];exact l:i<(qE A 0).aj.length)
  rw[MA hA hB af,e2];omega) (by show q (0+1)=q 0;exact q0.symm)
 have U:=w.part to0 N (A:=mJ (qE B 0)) (s:=0) (e:=λi=>i+(A.length+2)) (λi I=>by
  have l:=cB.RV I;rw[gv] at l;refine⟨by show i+(A.length+2)<_;omega,?_,VJ hA hB l⟩;have:=cB.Pw (br (by rw[gv];exact l:i<(qE B 0).aj.length));have e2:(mJ (qE B 0)).ty i=_:=ox (by rw[gv];exact l:i<(qE B 0).aj.length)
  rw[MA hA hB af,e2];omega) (by show q (0+(A.length+2))=q 0;rw[gy,q0];exact q1.symm)
 have D:∀i,i<=A.length->zN (lM G (A.length+B.length+3) (q 0)) (A.take i)=some ((jQ G (A.length+B.length+3) (q 0)).idxOf (q (i+1))):=λi I=>IQ cA hc S (Mq i I)
 have R:∀i,i<=B.length->zN (lM G (A.length+B.length+3) (q 0)) (B.take i)=some ((jQ G (A.length+B.length+3) (q 0)).idxOf (q (i+(A.length+2)))):=λi I=>IQ cB hc U (Mq i I)
 have V:q (A.length+1)=q (B.length+(A.length+2)):=by rw[sV A.length 1,sV B.length];exact q2
 refine⟨⟨hc,⟨(jQ G (A.length+B.length+3) (q 0)).idxOf (q (A.length+1)),?_,?_⟩,λC T' sb hT hC hk=> ?_⟩,λP O hPB k hk=> ?_⟩
 .have:=D A.length (aU _);rw[fC] at this;exact this
 .have:=R B.length (aU _);rw[fC] at this;rw[V];exact this
 .refine le_zero hT hc hC ?_;exact w.le to0 N (ZJ hC) (eq_sol hA hB hC hk) ah
 .obtain⟨x,hx⟩:=HZ hk;have hm:=aI hx;have K:=uW (uw w.go.bd (w.lt 0 N)).nd hx;obtain⟨hxn,L⟩:=w.fix N ((G5 w.go.bd (w.lt 0 N)).1 hm);rcases EM hxn with rfl|⟨i,I,rfl⟩|⟨i,I,rfl⟩
  .refine⟨[],by have:=O 0 (by omega);simpa using this,?_⟩;have:=D 0 af;rw[List.take_zero] at this;refine this.trans (aK some ?_);rw[<-q0];exact(aK (λz=>List.idxOf z (jQ G (A.length+B.length+3) (q 0))) L).trans K
  .exact⟨A.take i,O i af,by rw[D i af,L,K]⟩
  .by_cases l:i<B.length
   .exact⟨B.take i,hPB i l,by rw[R i af,L,K]⟩
   .have e:i=B.length:=af;subst e;refine⟨A.take A.length,O _ (aU _),?_⟩;rw[D _ (aU _),V,L,K]
def Zm (F:Nat):Gr:=⟨λ_=>(List.range F).map λ(f:Nat)=>((f:Int),0),λ_=>0⟩
omit hA hB in
theorem HG:Y6 (Zm F):=λx=>by show List.Pairwise _ (List.map _ _);rw[gU];exact CX.imp λh=>by simp only;omega
theorem Mf {W:List (Nat×Nat)}:SH SD (lG (Bv A B)) (A.length+B.length+3) W (Zm F) (λ_=>0):=by
 refine⟨λx l=>⟨MA hA hB l,rfl⟩,λx l p w=> ?_,λ_ _=>rfl⟩;have q:x<(Bv A B).length:=by rw[yu];exact l
 rw[IP q] at w;obtain⟨a,z,rfl⟩:=aD.1 w;have:=((Io hA hB (br q)).1.ok a z).1;exact aD.2 ⟨a.aT.toNat,eM.2 af,by show((a.aT.toNat:Int),0)=(a.aT,0);congr 1;omega⟩
theorem c438 {h:bR} (H:HM h 1 SD) (hF:F<=300) (hAl:A.length<=1000) (YX:B.length<=1000):∃f,f438 h ⟨[⟨0,[]⟩]⟩ A B=some (f,true)/\YV F A B f/\∀P,(∀i,i<=A.length->A.take i∈P)->(∀i,i<B.length->B.take i∈P)->EB f P:=by
 have cA:=sE (T:=1) af hA ⟨js 0,af⟩;have cB:=sE (T:=1) af hB ⟨js 0,af⟩;have G:=gv A 0;have lB:=gv B 0;have U:f442 [⟨0,[]⟩] h.Types h.cE [] [] []=some ((),ids 0 1,[0],[[]]):=by rw[ZI (fr:=0) rfl rfl rfl ah (λx D=>by simp at D;subst D;exact⟨ah,λa ha=>by cases ha⟩)];rfl
 have V:f442 (qE A 0).aj h.Types h.cE (ids 0 1) [0] [[]]=some ((),ids 0 1++ids 1 (A.length+1),[0]++(qE A 0).aj.map (·.cQ),[[]]++(qE A 0).aj.map λx=>zk 1 x.bD):=by rw[ZI (fr:=1) (qc _ _) rfl rfl af (cA.small af af),G]
 have a3:f442 (qE B 0).aj h.Types h.cE (ids 0 1++ids 1 (A.length+1)) ([0]++(qE A 0).aj.map (·.cQ)) ([[]]++(qE A 0).aj.map λx=>zk 1 x.bD)=
   some ((),ids 0 (A.length+B.length+3),(Bv A B).map (·.cQ),(Bv A B).map (·.bD)):=by
  rw[ZI (fr:=A.length+2) (by simp[qc];omega) (by simp[G]) (by simp[G]) af (cB.small af af),lB];have e1:ids 0 1++ids 1 (A.length+1)++ids (A.length+2) (B.length+1)=ids 0 (A.length+B.length+3):=by have x1:=GV 0 1 (A.length+1);have x2:=GV 0 (1+(A.length+1)) (B.length+1);rw[gy] at x1 x2;have x3:1+(A.length+1)=A.length+2:=af;rw[x1];rw[x3] at x2⊢;rw[x2];congr 1;omega
  rw[e1];have e2:[0]++(qE A 0).aj.map (·.cQ)++(qE B 0).aj.map (·.cQ)=(Bv A B).map (·.cQ):=by unfold Bv;simp[JF,ko]
  have e3:[[]]++((qE A 0).aj.map λx=>zk 1 x.bD)++((qE B 0).aj.map λx=>zk (A.length+2) x.bD)=(Bv A B).map (·.bD):=by unfold Bv;simp[JF,ko]
  rw[e2,e3]
 have I:=yu (A:=A) (B:=B);have O:JI 1 (AO F (A.length+B.length+3)) SD (lG (Bv A B)) (A.length+B.length+3) [] [] (ids 0 (A.length+B.length+3)) ((Bv A B).map (·.cQ)) ((Bv A B).map (·.bD)) id (λ_=>0):=by
  refine JI.init to0.refl rfl (by simpa using I) (by simpa using I) (λx D=> ?_) (λx D=> ?_) (λx _=>rfl) (λx _=>rfl)
  .have q:x<(Bv A B).length:=af;rw[lC q,(Io hA hB (br q)).2];omega
  .have q:x<(Bv A B).length:=af;rw[lC q];exact(Io hA hB (br q)).1
 have z:(A.length+B.length+3) *F<=400000000:=by have:=uh (by omega:A.length+B.length+3<=10000) hF;omega
 have e0:(0:Int)=((0:Nat):Int):=rfl;have w1:((ids 0 1).length:Int)=((1:Nat):Int):=by rw[qc]
 have w2:((ids 0 1++ids 1 (A.length+1)).length:Int)=((A.length+2:Nat):Int):=by simp[qc];omega
 rcases c443 H af (by omega:0<A.length+B.length+3) (by omega:1<A.length+B.length+3) z O with⟨p1,t1,r1,K,d1,j1,R⟩|⟨_,l⟩
 .rcases c443 H af (by omega:1<A.length+B.length+3) (by omega:A.length+2<A.length+B.length+3) z R with⟨p2,t2,r2,L,d2,j2,S⟩|⟨_,l⟩
  .rcases c443 H af (by omega:1+A.length<A.length+B.length+3) (by omega:A.length+2+B.length<A.length+B.length+3) z S with⟨p3,t3,r3,N,d3,j3,w⟩|⟨_,l⟩
   .obtain⟨p4,g⟩:=c444 (TL:=h.Types) (FL:=h.cE) (d:=d3) w.la w.lt w.ao w.pi.rl w.pi.rr af af (by omega:0<A.length+B.length+3) w.pi;obtain⟨s1,s2⟩:=eq_shr hA hB (w.uni (eqL_bd hA hB));refine⟨_,e438 ?_,s1,s2⟩;have v1:IntKind.wrap .i64 (((1:Nat):Int)+(A.length:Int))=((1+A.length:Nat):Int):=by rw[jN af af];omega
    have v2:IntKind.wrap .i64 (((A.length+2:Nat):Int)+(B.length:Int))=((A.length+2+B.length:Nat):Int):=by rw[jN af af];omega
    rw[e425 rfl,ak,c426 af,ak,ak,c426 af,ak,U,gA,V,gA,a3,gA,w1,w2,v1,v2,e0,j1,gA,cond_neg (by rfl),j2,gA,cond_neg (by rfl),j3,gA,cond_neg (by rfl),g,gA]
   .exact(l (Zm F) _ HG (Mf hA hB)).elim
  .exact(l (Zm F) _ HG (Mf hA hB)).elim
 .exact(l (Zm F) _ HG (Mf hA hB)).elim
end
