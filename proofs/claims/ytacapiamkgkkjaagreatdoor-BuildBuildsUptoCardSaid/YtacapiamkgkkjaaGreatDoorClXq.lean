/- The least well-typed feature structure (the reference's Infe. -/
import Derived.Test.YtacapiamkgkkjaaGreatDoorClXk
set_option linter.all false
open List (replicate)
namespace Go.Proofs.YtacapiamkgkkjaaGreatDoor.cl.pf
open Go Go.AM
def c471 {a b:List Int} (D:a.length=b.length) (hn:a.length<=1000000):f471 a b=some (decide (a=b)):=by
 have key:∀(k i:Nat),a.length=i+k->PJ a b (i:Int)=some (decide (a.drop i=b.drop i)):=by intro k;induction k with
  |zero=>intro i w;refine abB ?_;rw[cond_neg (by rw[aS];omega),nM af,nM af];simp
  |succ k z=>
   intro i w;have l:i<a.length:=af;have q:i<b.length:=af;refine abB ?_;rw[cond_pos (by rw[bz];omega),cQ l,cQ q,bQ af,z (i+1) af,jg l,jg q];by_cases e:a[i]=b[i]
   .rw[cond_neg (by rw[bne_eq_false_iff_eq];exact e)];simp only[cg,e,cR]
   .rw[cond_pos (by rw[kJ];exact e)];simp only[cg,e,false_and,uE]
 exact e471 (key a.length 0 af)
section
variable {h:aU} {T F:Nat} {sb:Int->Int->Prop} {cD:Int->Int} {val:Int->Int->Int} (H:HV h T F sb cD val) {f:FSt} (hf:Can T F f) (hn:f.az.length<=100000) (hT:T<=1000) (hF:F<=1000)
def Zs (sb:Int->Int->Prop) (cD:Int->Int) (val:Int->Int->Int) (old l:List Int) (n:Nat) (a:cB):Prop:=sb (cD a.bM) (l.getD n 0)/\∃t,sb (old.getD n 0) t/\sb t (l.getD n 0)/\sb (val t a.bM) (l.getD a.To.toNat 0)
def UpT (sb:Int->Int->Prop) (N:Nat) (a b:List Int):Prop:=∀n,n<N->sb (a.getD n 0) (b.getD n 0)
include H hf hn hF
theorem Zs.up {old w l:List Int} (z:UpT sb f.az.length w l) {n:Nat} (q:n<f.az.length) {a:cB} (L:a∈f.az[n].cu) (h:Zs sb cD val old w n a):Zs sb cD val old l n a:=by obtain⟨D,t,G,I,K⟩:=h;obtain⟨_,N,_⟩:=arcN H hf hn hF q L;exact⟨H.hm.to.trans D (z n q),t,G,H.hm.to.trans I (z n q),H.hm.to.trans K (z _ af)⟩
theorem c477 {tl:List Int} (S:TS T sb cD val f tl) {n:Nat} (w:n<f.az.length) {a:cB} (ha:a∈f.az[n].cu):
  (∃G,f477 h (n:Int) a tl=some (true,G)/\TS T sb cD val f G/\UpT sb f.az.length tl G/\Zs sb cD val tl G n a)\/
  ((∃G,f477 h (n:Int) a tl=some (false,G))/\∀z,Co sb cD val f z->False):=by
 obtain⟨q,hto,R⟩:=arcN H hf hn hF w ha;obtain⟨t,ht⟩:=fU hto.1;have I:t<f.az.length:=af;have htt:a.To.toNat=t:=af;obtain⟨i1,i2⟩:=H.int a.bM q.1 q.2;have N:n<tl.length:=by rw[S.len];exact w
 have hfl:=H.fl;have r:=S.rg n w;have U:∀z,Co sb cD val f z->sb (cD a.bM) (z n):=λz l=>((l n w).2 _ R).1
 rcases H.hm.mt _ _ r.1 r.2 i2.1 i2.2 with⟨m,m1,m2,O,m4,m5⟩|⟨m,m1,m2,O⟩
 .have L:=S.raise H w O m4 m5 U;have D:t<(tl.set n m).length:=by rw[L.len];exact I
  have mr:=H.hm.to.rr O;obtain⟨_,v1,v2⟩:=H.vl m a.bM mr.1 mr.2 q.1 q.2 m4;have r1:=L.rg t I;have e1:(tl.set n m).getD n 0=m:=by rw[e9,aB ⟨rfl,N⟩]
  have V:∀z,Co sb cD val f z->sb (val m a.bM) (z t):=λz l=>by have:=((l n w).2 _ R).2;rw[htt] at this;have h2:=L.dy z l n w;rw[e1] at h2;exact H.hm.to.trans (H.mono _ _ _ q.1 q.2 m4 h2) this
  have up1:UpT sb f.az.length tl (tl.set n m):=λx K=>by
   rw[e9];by_cases e:n=x
   .rw[aB ⟨e,by rw[<-e];exact N⟩,<-e];exact O
   .rw[aA (λh=>e h.1)];exact H.hm.to.refl (S.rg x K).1 (S.rg x K).2
  rcases H.hm.mt _ _ r1.1 r1.2 v2.1 v2.2 with⟨u,u1,u2,u3,u4,u5⟩|⟨u,u1,u2,u3⟩
  .have S2:=L.raise H I u3 u4 u5 V;have up2:UpT sb f.az.length (tl.set n m) ((tl.set n m).set t u):=λx K=>by
    rw[e9 (tl.set n m)];by_cases e:t=x
    .rw[aB ⟨e,by rw[<-e];exact D⟩,<-e];exact u3
    .rw[aA (λh=>e h.1)];exact H.hm.to.refl (L.rg x K).1 (L.rg x K).2
   refine .inl ⟨(tl.set n m).set t u,e477 ?_,S2,λx K=>H.hm.to.trans (up1 x K) (up2 x K),?_⟩
   .rw[sG N,xR q.1 af,i1,m2,ak,cond_neg (by rfl),sG N,v1,ak,ht,aV n];dsimp only;rw[sG D,u2,ak,sG D,aV]
   .have:=up2 n w;rw[e1] at this;refine⟨H.hm.to.trans m4 this,m,O,this,?_⟩;rw[htt,e9,aB ⟨rfl,D⟩];exact u4
  .refine .inr ⟨⟨(tl.set n m).set t u,e477 ?_⟩,λz l=>u3 _ (L.dy z l t I) (V z l)⟩;rw[sG N,xR q.1 af,i1,m2,ak,cond_neg (by rfl),sG N,v1,ak,ht,aV n];dsimp only;rw[sG D,u2,ak,sG D,aV]
 .refine .inr ⟨⟨tl,e477 ?_⟩,λz l=>O _ (S.dy z l n w) (U z l)⟩;rw[sG N,xR q.1 af,i1,m2,ak,cond_pos (by rfl)]
theorem h441_14 {old:List Int} {o4:FSt} {n:Nat} (z:n<f.az.length):∀(xs:List cB) (k:Nat) (l:List Int),f.az[n].cu.drop k=xs->TS T sb cD val f l->UpT sb f.az.length old l->(∀a∈f.az[n].cu.take k,Zs sb cD val old l n a)->
  (∃q,TS T sb cD val f q/\UpT sb f.az.length old q/\UpT sb f.az.length l q/\(∀a∈f.az[n].cu,Zs sb cD val old q n a)/\∀r,wZ old ((n+1:Nat):Int) h f o4 q=some r->w5 old (n:Int) f.az[n].cu (k:Int) h f o4 l=some r)\/
  (w5 old (n:Int) f.az[n].cu (k:Int) h f o4 l=some (⟨[]⟩,false)/\∀τ,Co sb cD val f τ->False):=by
 have hal:=(hf.ao (cG z)).len;intro xs;induction xs with
 |nil=>intro k l w S O N;rw[jV (mh w)] at N;refine .inl ⟨l,S,O,λx G=>H.hm.to.refl (S.rg x G).1 (S.rg x G).2,N,λr L=>Of ?_⟩;rw[bp w,au,bQ af];exact L
 |cons a xs ih=>
  intro k l w S O N;have ha:=bf (cn w);rcases c477 H hf hn hF S z ha with⟨K,R,S1,u1,p1⟩|⟨⟨K,R⟩,I⟩
  .have V:Zs sb cD val old K n a:=by
    obtain⟨q1,t,q2,q3,q4⟩:=p1;exact⟨q1,t,H.hm.to.trans (O n z) q2,q3,q4⟩
   have hu1:UpT sb f.az.length old K:=λx G=>H.hm.to.trans (O x G) (u1 x G)
   have step:∀r,w5 old (n:Int) f.az[n].cu ((k+1:Nat):Int) h f o4 K=some r->w5 old (n:Int) f.az[n].cu (k:Int) h f o4 l=some r:=λr L=>by refine Of ?_;rw[aT w,aj,aP w,R,mC,cond_neg (by rfl),aQ w af];exact L
   rcases ih (k+1) K (aJ w) S1 hu1 (λb D=>by
    rw[dr,cn w] at D;rcases bA.1 D with D|D
    .exact Zs.up H hf hn hF u1 z (sJ D) (N b D)
    .simp at D;subst D;exact V) with⟨c2,S2,u2,u3,p2,U⟩|⟨U,I⟩
   .exact .inl ⟨c2,S2,u2,λx G=>H.hm.to.trans (u1 x G) (u3 x G),p2,λr L=>step _ (U r L)⟩
   .exact .inr ⟨step _ U,I⟩
  .refine .inr ⟨Of ?_,I⟩;rw[aT w,aj,aP w,R,mC,cond_pos (by rfl)]
theorem h441_10 {old:List Int} {o4:FSt}:∀(k i:Nat) (l:List Int),f.az.length=i+k->TS T sb cD val f l->UpT sb f.az.length old l->(∀n,(w:n<f.az.length)->n<i->∀a∈f.az[n].cu,Zs sb cD val old l n a)->
  (∃q,TS T sb cD val f q/\UpT sb f.az.length old q/\(∀n,(w:n<f.az.length)->∀a∈f.az[n].cu,Zs sb cD val old q n a)/\∀r,(Option.bind (f471 old q) λK=>xH (!K) h f o4 q)=some r->wZ old (i:Int) h f o4 l=some r)\/
  (wZ old (i:Int) h f o4 l=some (⟨[]⟩,false)/\∀τ,Co sb cD val f τ->False):=by
 intro k;induction k with
 |zero=>intro i l hi S R O;refine .inl ⟨l,S,R,λn w=>O n w af,λr I=>Wv ?_⟩;rw[cond_neg (by rw[aS];omega)];exact I
 |succ k ih=>
  intro i l hi S R O;have G:i<f.az.length:=af;have step:∀r,w5 old (i:Int) f.az[i].cu 0 h f o4 l=some r->wZ old (i:Int) h f o4 l=some r:=λr I=>by refine Wv ?_;rw[cond_pos (by rw[bz];omega),cQ G];exact I
  rcases h441_14 H hf hn hF (old:=old) (o4:=o4) G f.az[i].cu 0 l rfl S R (λa D=>by cases D) with⟨c1,U,u1,u2,p1,L⟩|⟨L,z⟩
  .rcases ih (i+1) c1 af U u1 (λn w hlt a D=>by
    by_cases e:n=i
    .subst e;exact p1 a D
    .exact Zs.up H hf hn hF u2 w D (O n w af a D)) with⟨c2,V,u3,p2,N⟩|⟨N,z⟩
   .exact .inl ⟨c2,V,u3,p2,λr I=>step _ (L _ (N r I))⟩
   .exact .inr ⟨step _ (L _ N),z⟩
  .exact .inr ⟨step _ L,z⟩
omit H hf hF in
theorem h441_21 {o4:FSt} {tl:List Int} (q:tl.length=f.az.length):∀(k i:Nat),f.az.length=i+k->Iw (i:Int) f o4 tl ((FE f tl).az.take i)=some (FE f tl,true):=by intro k;induction k with
 |zero=>intro i w;refine Ww ?_;rw[cond_neg (by rw[aS];omega),jV (by rw[Cb q];omega)]
 |succ k z=>intro i w;have l:i<f.az.length:=af;refine Ww ?_;rw[cond_pos (by rw[bz];omega),sG af,cQ l,cH _ (by rw[fC];omega) ai af,bQ af];have:=z (i+1) af;rw[dr,E3 q l] at this;exact this
theorem h441_7 {o4:FSt}:∀(M:Nat) (l:List Int),room T l<=M->TS T sb cD val f l->XH T sb cD val f (xH true h f o4 l):=by
 intro M;induction M using Nat.strongRecOn with
 |ind M ih=>
 intro l hM S;have step:∀r,wZ l 0 h f o4 l=some r->xH true h f o4 l=some r:=λr U=>by refine abp ?_;rw[aj,cH _ ai (by rw[S.len];omega) af,dS];exact U
 rcases h441_10 H hf hn hF (old:=l) (o4:=o4) f.az.length 0 l af S (λx hx=>H.hm.to.refl (S.rg x hx).1 (S.rg x hx).2) (λn _ N=>absurd N af) with⟨D,K,u1,p1,L⟩|⟨L,R⟩
 .have z:=c471 (a:=l) (b:=D) (by rw[S.len,K.len]) (by rw[S.len];omega)
  rcases Xb (T:=T) (a:=l) (b:=D) (by rw[S.len,K.len]) (λn q=>by
   rw[S.len] at q
   exact⟨(S.rg n q).1,H.le _ _ (u1 n q),(K.rg n q).2⟩) with e|e
  .subst e;refine .inl ⟨l,step _ (L _ ?_),S,λn q p V=> ?_⟩
   .rw[z,ak];simp only[uM,di];refine abp ?_;rw[au];exact h441_21 (o4:=o4) hn S.len f.az.length 0 af
   .rw[vW q] at V;obtain⟨a,ha,rfl⟩:=aD.1 V;obtain⟨G,t,I,q3,q4⟩:=p1 n q a ha;have et:=H.hm.to.anti q3 I;rw[et] at q4;exact⟨G,q4⟩
  .have O:l≠D:=λe2=>by subst e2;omega
   have:=ih (room T D) af D (aW _) K;have w:∀r,xH true h f o4 D=some r->xH true h f o4 l=some r:=λr U=>step _ (L _ (by rw[z,ak,p7 O,eB];exact U))
   rcases this with⟨Vw,G,I⟩|⟨G,I⟩
   .exact .inl ⟨Vw,w _ G,I⟩
   .exact .inr ⟨w _ G,I⟩
 .exact .inr ⟨step _ L,R⟩
theorem c441:XH T sb cD val f (f441 h f):=by
 have S:=TS.init H hf hn hF;have D:=h441_7 H hf hn hF (o4:=⟨[]⟩) _ (f.az.map (·.ee)) (aW _) S;have key:∀r,xH true h f ⟨[]⟩ (f.az.map (·.ee))=some r->∀(k i:Nat),f.az.length=i+k->PC (i:Int) h f ⟨[]⟩ ((f.az.take i).map (·.ee))=some r:=by intro r q k;induction k with
  |zero=>intro i G;have e:i=f.az.length:=af;subst e;refine abo ?_;rw[cond_neg (by rw[aS];omega),gw];exact q
  |succ k I=>intro i G;have l:i<f.az.length:=af;refine abo ?_;rw[cond_pos (by rw[bz];omega),cQ l,cH _ aH ai af,bQ af];have:=I (i+1) af;rw[dr,aN l,bZ] at this;exact this
 have step:∀r,xH true h f ⟨[]⟩ (f.az.map (·.ee))=some r->f441 h f=some r:=λr q=>e441 (key r q f.az.length 0 af)
 rcases D with⟨tl,w,z⟩|⟨w,z⟩
 .exact .inl ⟨tl,step _ w,z⟩
 .exact .inr ⟨step _ w,z⟩
end
section
variable {h:aU} {T F:Nat} {sb:Int->Int->Prop} {cD:Int->Int} {val:Int->Int->Int} (H:HV h T F sb cD val)
include H
variable {A B:FSt} (hA:Can T F A) (hB:Can T F B) (hT:T<=1000) (hF:F<=300) {P Q:Nat} (hn:A.az.length+B.az.length<=100000)
theorem Can.cov {f:FSt} (hf:Can T F f):∃P,Cov f P/\P.length<=f.az.length:=by
 have:∀k,k<f.az.length->∃π,FD f π=some k:=λk l=>by have K:=hf.Tk l;clear l;induction K with
  |root=>exact⟨[],rfl⟩
  | @step n p hn I w=>obtain⟨π,hπ⟩:=w;exact⟨π++[p.1],IX.2 ⟨n,hπ,(Cf (hf.Aj n)).2 I⟩⟩
 have key:∀N,N<=f.az.length->∃P:List (List Int),P.length<=N/\∀k,k<N->∃π∈P,FD f π=some k:=by intro N;induction N with
  |zero=>intro _;exact⟨[],aW _,λk l=>absurd l af⟩
  |succ N w=>
   intro O;obtain⟨P,z,q⟩:=w af;obtain⟨π,hπ⟩:=this N af;refine⟨π::P,by simp;omega,λk l=> ?_⟩;by_cases e:k=N
   .subst e;exact⟨π,by simp,hπ⟩
   .obtain⟨L,D,G⟩:=q k af;exact⟨L,by simp[D],G⟩
 obtain⟨P,z,q⟩:=key f.az.length (aW _);exact⟨P,q,z⟩
include hA hB in
theorem Zq.size {L:FSt} (w:Zq T F sb A B L):L.az.length<=A.az.length+B.az.length:=by obtain⟨P,l,z⟩:=Can.cov H hA;obtain⟨Q,q,D⟩:=Can.cov H hB;have:=(w.cov (P++Q) (l.mono λπ h=>cT _ h) (q.mono λπ h=>gQ _ h)).le;rw[cM] at this;omega
include hA hB hT hF hn
end
end Go.Proofs.YtacapiamkgkkjaaGreatDoor.cl.pf
namespace Go.Proofs.YtacapiamkgkkjaaGreatDoor.cl.pf
open Go Go.AM
def xM:Nat->List Int->Int->List Node
 |_,[],t=>[⟨t,[]⟩]
 |k,f::π,t=>⟨0,[⟨f,(k+1:Nat)⟩]⟩::xM (k+1) π t
def sM (π:List Int) (t:Int):FSt:=⟨xM 0 π t⟩
def Ef:∀(k:Nat) (π:List Int) (t:Int),(xM k π t).length=π.length+1
 |_,[],_=>rfl
 |k,f::π,t=>by simp only[xM,bw,Ef (k+1) π t]
def rS (π:List Int) (t:Int):(sM π t).az.length=π.length+1:=Ef 0 π t
def vv:∀(k:Nat) (π:List Int) (t:Int) (i:Nat),(xM k π t)[i]? =if h:i<π.length then some ⟨0,[⟨π[i],(k+i+1:Nat)⟩]⟩ else if i=π.length then some ⟨t,[]⟩ else none
 |k,[],t,0=>by simp[xM]
 |k,[],t,i+1=>by simp[xM]
 |k,f::π,t,0=>by simp[xM]
 |k,f::π,t,i+1=>by
  simp only[xM,rH,vv (k+1) π t i,bw,Nat.add_lt_add_iff_right,D1,Nat.add_right_cancel_iff];by_cases h:i<π.length
  .simp only[h,dite_true];congr 4;omega
  .simp only[h,dite_false]
def FO {π:List Int} {t:Int} {i:Nat} (h:i<π.length):kY (sM π t) i=[(π[i],i+1)]:=by
 unfold kY
 have:(sM π t).az[i]? =some ⟨0,[⟨π[i],(0+i+1:Nat)⟩]⟩:=by show(xM 0 π t)[i]? =_;rw[vv,iG h]
 rw[this];simp[Zb]
def vw {π:List Int} {t:Int}:kY (sM π t) π.length=[]:=by
 unfold kY
 have:(sM π t).az[π.length]? =some ⟨t,[]⟩:=by show(xM 0 π t)[π.length]? =_;rw[vv,rO (rI _),aB rfl]
 rw[this];rfl
def ZO {π:List Int} {t:Int} {i:Nat} (h:i<π.length):sU (sM π t) i=0:=by
 unfold sU
 have:(sM π t).az[i]? =some ⟨0,[⟨π[i],(0+i+1:Nat)⟩]⟩:=by show(xM 0 π t)[i]? =_;rw[vv,iG h]
 rw[this]
def Db {π:List Int} {t:Int}:sU (sM π t) π.length=t:=by
 unfold sU
 have:(sM π t).az[π.length]? =some ⟨t,[]⟩:=by show(xM 0 π t)[π.length]? =_;rw[vv,rO (rI _),aB rfl]
 rw[this]
def VQ:∀(k:Nat) (π:List Int) (t:Int),∀x∈xM k π t,∀a∈x.cu,0<=a.To
 |_,[],t,x,l,a,q=>by simp[xM] at l;subst l;cases q
 |k,f::π,t,x,l,a,q=>by
  simp only[xM,aI] at l;rcases l with rfl|l
  .simp at q;subst q;show 0<=((k+1:Nat):Int);omega
  .exact VQ (k+1) π t x l a q
def chn_go {T F:Nat} (hT:0<T) {π:List Int} {t:Int} (hπ:∀f∈π,0<=f/\f<(F:Int)) (ht:0<=t/\t<(T:Int)):GO T F (qe (sM π t)) (sM π t).az.length:=by
 rw[rS];refine⟨λi q p l=> ?_,λi q=> ?_,λi q p l=> ?_,λi q=> ?_⟩<;>by_cases h:i<π.length
 .have l:p∈kY (sM π t) i:=l;rw[FO h] at l;simp at l;subst l;show i+1<_;omega
 .have l:p∈kY (sM π t) i:=l;have e:i=π.length:=af;rw[e,vw] at l;cases l
 .show Cn (kY _ i);rw[FO h];exact uR _ _
 .have e:i=π.length:=af;show Cn (kY _ i);rw[e,vw];exact Cn.nil
 .have l:p∈kY (sM π t) i:=l;rw[FO h] at l;simp at l;subst l;exact hπ _ (cG h)
 .have l:p∈kY (sM π t) i:=l;have e:i=π.length:=af;rw[e,vw] at l;cases l
 .show 0<=sU _ i/\sU _ i<_;rw[ZO h];omega
 .have e:i=π.length:=af;show 0<=sU _ i/\sU _ i<_;rw[e,Db];exact ht
def chn_vis {π:List Int} {t:Int}:∀(j i k:Nat),π.length=i+j->j<k->nx (kY (sM π t)) k i (List.range i)=List.range (π.length+1):=by intro j;induction j with
 |zero=>
  intro i k l q;have e:i=π.length:=af;obtain⟨k,rfl⟩:∃k',k=k'+1:=⟨k-1,af⟩
  rw[nx,aA ai,e,vw,kL];rfl
 |succ j w=>
  intro i k l q;obtain⟨k,rfl⟩:∃k',k=k'+1:=⟨k-1,af⟩
  rw[nx,aA ai,FO af,<-kL];exact w (i+1) k af af
def u6 {T F:Nat} (hT:0<T) {π:List Int} {t:Int} (hπ:∀f∈π,0<=f/\f<(F:Int)) (ht:0<=t/\t<(T:Int)):Can T F (sM π t):=by refine Da (by rw[rS];omega) (chn_go hT hπ ht) (VQ 0 π t) ?_;rw[rS];exact chn_vis π.length 0 _ af af
def Jd {π:List Int} {t:Int}:∀(i:Nat),i<=π.length->FD (sM π t) (π.take i)=some i:=by intro i;induction i with
 |zero=>intro _;rfl
 |succ i l=>intro q;rw[dr,aN (by omega:i<π.length)];refine IX.2 ⟨i,l af,?_⟩;show Cs (kY _ i) _=_;rw[FO af];simp[Cs]
def at_take {C:Gr} {n k:Nat} {π:List Int} (h:D6 C n π=some k) (i:Nat):∃j,D6 C n (π.take i)=some j/\D6 C j (π.drop i)=some k:=by rw[<-nQ i π,C6,dx] at h;obtain⟨j,l,q⟩:=h;refine⟨j,l,q⟩
def XM (C:Gr) (π:List Int) (i:Nat):Nat:=(D6 C 0 (π.take i)).getD 0
def Tv {C:Gr} {k:Nat} {π:List Int} (h:D6 C 0 π=some k) (i:Nat):D6 C 0 (π.take i)=some (XM C π i):=by obtain⟨j,l,_⟩:=at_take h i;unfold XM;rw[l];rfl
def Nl {C:Gr} {k:Nat} {π:List Int} (h:D6 C 0 π=some k):XM C π π.length=k:=by unfold XM;rw[gw,h];rfl
def DO {C:Gr} (z:Det C) {k:Nat} {π:List Int} (h:D6 C 0 π=some k) {i:Nat} (D:i<π.length):(π[i],XM C π (i+1))∈C.sc (XM C π i):=by have l:=Tv h (i+1);rw[dr,aN D] at l;obtain⟨j,q,w⟩:=IX.1 l;rw[Tv h i] at q;cases q;exact(Cf (z _)).1 w
section
variable {T F:Nat} {sb:Int->Int->Prop} (hT:TO T sb) {π:List Int} {t:Int} (hπ:∀f∈π,0<=f/\f<(F:Int)) (ht:0<=t/\t<(T:Int))
include hT hπ ht
theorem ZN {C:FSt} (q:Can T F C):Le sb (sM π t) C↔∃k,FD C π=some k/\sb t (sU C k):=by
 have w:0<T:=af;have z:=u6 (F:=F) w hπ ht;constructor
 .rintro⟨m,I⟩;have e:=Jd (π:=π) (t:=t) π.length (aW _);rw[gw] at e;refine⟨m π.length,EE z q I e,?_⟩;have:=(I.2 π.length (z.Tk (by rw[rS];omega))).1;have K:(qe (sM π t)).ty π.length=t:=Db;rw[K] at this;exact this
 .rintro⟨k,G,O⟩;refine⟨XM (qe C) π,by simp[XM,D6],λi L=> ?_⟩;have D:=z.rlt L;rw[rS] at D;by_cases h:i<π.length
  .refine⟨?_,λp l=> ?_⟩
   .show sb (sU (sM π t) i) _;rw[ZO h];have N:=Nn (λi _=>q.Aj i) _ 0 _ .root (Tv G i);have:=q.go.tp _ (q.rlt N);exact hT.top this.1 this.2
   .have l:p∈kY (sM π t) i:=l;rw[FO h] at l;simp at l;subst l;exact DO q.Qd G h
  .have e:i=π.length:=af;subst e;refine⟨?_,λp l=> ?_⟩
   .show sb (sU (sM π t) _) _;rw[Db,Nl G];exact O
   .have l:p∈kY (sM π t) π.length:=l;rw[vw] at l;cases l
end
def X2 (π:List Int) (t:Int):xM 0 π t=(xM 0 π t).take π.length++[⟨t,[]⟩]:=by
 have h:(xM 0 π t).drop π.length=[⟨t,[]⟩]:=by apply kT;intro i;rw[wq,vv];cases i with
  |zero=>simp
  |succ i=>rw[rO af,aA af];simp
 rw[<-h,nQ]
def Qz {p:List Int} (z:p.length<=1000000) (t:Int):f426 p ⟨[⟨t,[]⟩]⟩=some (sM p t):=by
 refine e426 ?_;have key:∀(k i:Nat),p.length=i+k->Gm p p (p.length:Int) (i:Int) ⟨[⟨t,[]⟩]⟩ ⟨[]⟩ ((xM 0 p t).take i)=some (sM p t):=by intro k;induction k with
  |zero=>intro i q;have e:i=p.length:=af;subst e;refine Oc ?_;rw[cond_neg (by rw[aS];omega)];refine Od ?_;rw[cond_pos (by rfl),jE];refine Oa ?_;rw[cond_neg (by rfl),cH _ (by rw[fC,Ef];omega) ai af,<-X2];refine Od ?_;rw[cond_neg (by rfl)];rfl
  |succ k w=>intro i q;have l:i<p.length:=af;refine Oc ?_;rw[cond_pos (by rw[bz];omega),cQ l,cH _ (by rw[fC,Ef];omega) ai af,bQ af];have:=w (i+1) af;rw[dr,vv,iG l] at this;simpa using this
 have:=key p.length 0 af;simpa using this
end Go.Proofs.YtacapiamkgkkjaaGreatDoor.cl.pf
namespace Go.Proofs.YtacapiamkgkkjaaGreatDoor.cl.pf
open Go Go.AM
def sb0 (a b:Int):Prop:=a=0/\b=0
def to0:TO 1 sb0:=⟨λh=>by have:=h.1;omega,λh=>by have:=h.2;omega,λh l=>⟨af,af⟩,λh l=>⟨h.1,l.2⟩,λh l=>by rw[h.1,h.2],λh l=>⟨rfl,af⟩⟩
def Can.up {T T' F:Nat} {f:FSt} (h:Can T F f) (hT:T<=T'):Can T' F f:=
 ⟨h.ne,⟨h.go.bd,h.go.Aj,h.go.ft,λn hn=>⟨(h.go.tp n hn).1,by have:=(h.go.tp n hn).2;omega⟩⟩,h.eq⟩
structure Shr (F:Nat) (A B:List Int) (f:FSt):Prop where
 can:Can 1 F f
 at_:∃k,FD f A=some k/\FD f B=some k
 least:∀(C:FSt) (T':Nat) (sb:Int->Int->Prop),TO T' sb->Can T' F C->(∃k,FD C A=some k/\FD C B=some k)->Le sb f C
def Shr.le {F T:Nat} {sb:Int->Int->Prop} (hT:TO T sb) {A B:List Int} {f C:FSt} (h:Shr F A B f) (l:1<=T) (q:Can T F C):Le sb f C↔∃k,FD C A=some k/\FD C B=some k:=by
 constructor
 .rintro⟨m,w⟩;obtain⟨k,z,D⟩:=h.at_;exact⟨m k,EE (h.can.up l) q w z,EE (h.can.up l) q w D⟩
 .exact h.least C T sb hT q
def le_zero {T F:Nat} {sb:Int->Int->Prop} (hT:TO T sb) {f C:FSt} (hf:Can 1 F f) (z:Can T F C) (h:Le sb0 f (FE C (replicate C.az.length 0))):Le sb f C:=by
 obtain⟨m,w⟩:=h;have q:(replicate C.az.length (0:Int)).length=C.az.length:=ai;have I:Can 1 F (FE C (replicate C.az.length 0)):=z.FE q λi l=>by rw[bq,kN,aB l];simp
 refine⟨m,w.1,λi l=>⟨?_,λp G=> ?_⟩⟩
 .have K:=hf.go.tp i (hf.rlt l);have e:(qe f).ty i=0:=af;rw[e];have D:=I.rlt (w.Tk l);rw[Cb q] at D;have:=z.go.tp _ D;exact hT.top this.1 this.2
 .have:=(w.2 i l).2 p G;have e:(qe (FE C (replicate C.az.length 0))).sc=(qe C).sc:=Vm q;rw[e] at this;exact this
def ZJ {T F:Nat} {C:FSt} (l:Can T F C):Can 1 F (FE C (replicate C.az.length 0)):=l.FE ai λi q=>by rw[bq,kN,aB q];simp
end Go.Proofs.YtacapiamkgkkjaaGreatDoor.cl.pf
namespace Go.Proofs.YtacapiamkgkkjaaGreatDoor.cl.pf
open Go Go.AM
def XJ (l:List (List cB)):Nat->List Int->Nat->Prop
 |x,[],y=>x=y
 |x,f::π,y=>∃z:Nat,(⟨f,(z:Int)⟩:cB)∈l.getD x []/\XJ l z π y
def XJ.snoc {q:List (List cB)} {f:Int} {z:Nat}:∀{π:List Int} {x y:Nat},XJ q x π y->(⟨f,(z:Int)⟩:cB)∈q.getD y []->XJ q x (π++[f]) z
 |[],x,y,h,l=>by cases h;exact⟨z,l,rfl⟩
 |g::π,x,y,⟨w,D,h⟩,l=>⟨w,D,XJ.snoc h l⟩
def XJ.mono {q z:List (List cB)} (h:∀x,∀a∈q.getD x [],a∈z.getD x []):∀{π:List Int} {x y:Nat},XJ q x π y->XJ z x π y
 |[],_,_,l=>l
 |_::π,x,y,⟨w,D,l⟩=>⟨w,h x _ D,XJ.mono h l⟩
def yy (A:List Int):List (List cB):=(List.range (A.length+1)).map λj=>match A[j]? with
 |some f=>[⟨f,(j+1:Nat)⟩]
 |none=>[]
def BW {A:List Int} {j:Nat} (h:j<A.length):(yy A).getD j []=[⟨A[j],(j+1:Nat)⟩]:=by grind[yy]
def Ed {A:List Int} {j:Nat} (h:A.length<=j):(yy A).getD j []=[]:=by unfold yy;grind
def NA {A:List Int}:∀i,i<=A.length->XJ (yy A) 0 (A.take i) i
 |0,_=>rfl
 |i+1,h=>by rw[dr,aN af];exact(NA i af).snoc (by rw[BW af];simp)
section
variable {F:Nat} {A B:List Int} (hA:∀f∈A,0<=f/\f<(F:Int)) (hB:∀f∈B,0<=f/\f<(F:Int)) (hAl:A.length<=1000) (hBl:B.length<=1000) (hF:F<=1000) (hB0:B≠[]) (hnp:¬B<+:A)
structure SI (F:Nat) (A B:List Int) (n i:Nat) (ys:List (List cB)):Prop where
 len:A.length+1<=ys.length
 le:ys.length<=A.length+1+i
 aw:∀x,x<ys.length->AW F ys.length (ys.getD x [])
 pa:XJ ys 0 A A.length
 pb:XJ ys 0 (B.take i) n
 nlt:n<ys.length
 dy:∀(C:FSt) (T' k:Nat),Can T' F C->FD C A=some k->FD C B=some k->∃m:Nat->Nat,m 0=0/\m A.length=k/\m n=XM (qe C) B i/\∀x,x<ys.length->∀a∈ys.getD x [],(a.bM,m a.To.toNat)∈kY C (m x)
 ph:ys.getD n []=[]\/(n=i/\i<=A.length/\B.take i=A.take i/\ys=yy A)
theorem add_get {l:List (List cB)} {n x:Nat} {a:cB} (hn:n<l.length):(l.set n (l.getD n []++[a])).getD x []=if n=x then l.getD n []++[a] else l.getD x []:=by grind
theorem AW.snoc {F n:Nat} {l:List cB} (h:AW F n l) {a:cB} (G:(0<=a.bM/\a.bM<(F:Int))/\0<=a.To/\a.To<(n:Int)) (w:fa l a.bM=none):AW F n (l++[a]):=by
 refine⟨?_,λb q=> ?_⟩
 .rw[bZ,iE];refine⟨h.nd,by simp,λx D y z=> ?_⟩;simp at z;subst z;obtain⟨b,q,rfl⟩:=aD.1 D;exact VZ w b q
 .rcases bA.1 q with q|q
  .exact h.ok b q
  simp_all
theorem AW.more {F n w:Nat} {l:List cB} (h:AW F n l) (hn:n<=w):AW F w l:=⟨h.nd,λb q=>⟨(h.ok b q).1,(h.ok b q).2.1,by have:=(h.ok b q).2.2;omega⟩⟩
include hA in
theorem SI.init:SI F A B 0 0 (yy A):=by
 have z:(yy A).length=A.length+1:=by simp[yy]
 refine⟨af,by omega,λx q=> ?_,?_,rfl,by omega,λC G k D w I=>⟨XM (qe C) A,rfl,Nl w,rfl,λx q a l=> ?_⟩, .inr ⟨rfl,by omega,rfl,rfl⟩⟩
 .rw[z] at q⊢;by_cases h:x<A.length
  .rw[BW h];exact⟨ai,λa l=>by simp at l;subst l;exact⟨hA _ (cG h),by show 0<=((x+1:Nat):Int);omega,by show((x+1:Nat):Int)<((A.length+1:Nat):Int);omega⟩⟩
  .rw[Ed af];exact⟨ai,λa l=>by cases l⟩
 .have:=NA (A:=A) A.length (aW _);rwa[gw] at this
 .rw[z] at q;by_cases h:x<A.length
  .rw[BW h] at l;simp at l;subst l;exact DO D.Qd w h
  .rw[Ed af] at l;cases l
include hB in
theorem SI.go {n i:Nat} {K:List (List cB)} (I:SI F A B n i K) (L:i<B.length) {a:cB} (U:fa (K.getD n []) B[i]=some a):0<=a.To/\SI F A B a.To.toNat (i+1) K:=by
 obtain⟨q,z⟩:=HT U;rcases I.ph with h|⟨rfl,V,G,rfl⟩
 .rw[h] at q;cases q
 .have w:n<A.length:=by
   by_cases h:n<A.length
   .exact h
   .rw[Ed af] at q;cases q
  rw[BW w] at q;simp at q;subst q;have z:A[n]=B[n]:=z;have hl:(yy A).length=A.length+1:=by simp[yy]
  have l:B.take (n+1)=A.take (n+1):=by rw[dr,dr,G,aN L,aN w,z]
  refine⟨by show 0<=((n+1:Nat):Int);omega,?_⟩;show SI F A B ((n+1:Nat):Int).toNat (n+1) (yy A);rw[aV];refine⟨I.len,by have:=I.le;omega,I.aw,I.pa,?_,by omega,λC R k D k1 N=> ?_, .inr ⟨rfl,by omega,l,rfl⟩⟩
  .rw[l];exact NA (n+1) af
  .obtain⟨m,m0,m1,m2,O⟩:=I.dy C R k D k1 N;refine⟨m,m0,m1,?_,O⟩;have e1:=O n I.nlt ⟨A[n],(n+1:Nat)⟩ (by rw[BW w];simp);have S:=DO D.Qd N L;simp only at e1;rw[m2,z,aV] at e1;exact(D.Aj _).Qd e1 S
include hB in
theorem SI.new {n i:Nat} {l:List (List cB)} (I:SI F A B n i l) (O:i<B.length) (N:fa (l.getD n []) B[i]=none):SI F A B l.length (i+1) (l.set n (l.getD n []++[(⟨B[i],(l.length:Nat)⟩:cB)])++[[]]):=by
 have V:(l.set n (l.getD n []++[(⟨B[i],(l.length:Nat)⟩:cB)])++[[]]).length=l.length+1:=ai;have L:∀x,x<l.length->(l.set n (l.getD n []++[(⟨B[i],(l.length:Nat)⟩:cB)])++[[]]).getD x []=if n=x then l.getD n []++[(⟨B[i],(l.length:Nat)⟩:cB)] else l.getD x []:=λx K=>by rw[ze (by simpa using K),add_get I.nlt]
 have G:(l.set n (l.getD n []++[(⟨B[i],(l.length:Nat)⟩:cB)])++[[]]).getD l.length []=[]:=by rw[Di ai];simp
 have z:∀x,∀b∈l.getD x [],b∈(l.set n (l.getD n []++[(⟨B[i],(l.length:Nat)⟩:cB)])++[[]]).getD x []:=λx b D=>by
  by_cases K:x<l.length
  .rw[L x K];by_cases e:n=x
   .subst e;rw[aB rfl];exact cT _ D
   .rw[aA e];exact D
  .rw[bq,gu af] at D;cases D
 have R:=I.nlt;have hIl:=I.len;have U:=I.le;refine⟨af,by omega,λx K=> ?_,I.pa.mono z,?_,by omega,λC T' k S k1 k2=> ?_, .inl G⟩
 .rw[V] at K⊢;by_cases w:x<l.length
  .rw[L x w];by_cases e:n=x
   .subst e;rw[aB rfl];exact((I.aw n w).more af).snoc ⟨hB _ (cG O),by show 0<=((l.length:Nat):Int);omega,by show((l.length:Nat):Int)<((l.length+1:Nat):Int);omega⟩ N
   .rw[aA e];exact(I.aw x w).more af
  .have e:x=l.length:=af;subst e;rw[G];exact⟨ai,λa N=>by cases N⟩
 .rw[dr,aN O];exact(I.pb.mono z).snoc (by rw[L n R,aB rfl];simp)
 .obtain⟨m,m0,m1,m2,m3⟩:=I.dy C T' k S k1 k2;refine⟨λx=>if x=l.length then XM (qe C) B (i+1) else m x,?_,?_,by simp,λx K a q=> ?_⟩
  .show(if 0=l.length then _ else _)=0;rw[aA af];exact m0
  .show(if A.length=l.length then _ else _)=k;rw[aA af];exact m1
  .rw[V] at K;by_cases w:x<l.length
   .rw[L x w] at q;have old:∀b∈l.getD x [],(b.bM,if b.To.toNat=l.length then XM (qe C) B (i+1) else m b.To.toNat)∈kY C (if x=l.length then XM (qe C) B (i+1) else m x):=λb D=>by
     have:=((I.aw x w).ok b D).2;rw[aA af,aA af];exact m3 x w b D
    by_cases e:n=x
    .subst e;rw[aB rfl] at q;rcases bA.1 q with q|q
     .exact old a q
     .simp at q;subst q;show(B[i],if((l.length:Nat):Int).toNat=l.length then _ else _)∈kY C (if n=l.length then _ else _);rw[aV,aB rfl,aA af,m2];exact DO S.Qd k2 O
    .rw[aA e] at q;exact old a q
   .have e:x=l.length:=af;subst e;rw[G] at q;cases q
include hA hB hB0 hnp hAl hBl hF in
include hA hB hB0 hnp hAl hBl hF in
include hA hB hB0 hnp hAl hBl hF in
end
end Go.Proofs.YtacapiamkgkkjaaGreatDoor.cl.pf
namespace Go.Proofs.YtacapiamkgkkjaaGreatDoor.cl.pf
open Go Go.AM
def nmA (l:List cB):List Int:=l.flatMap λa=>[a.bM,a.To]
def nmN (x:Node):List Int:=[x.ee,(x.cu.length:Int)]++nmA x.cu
def nmF (f:FSt):List Int:=(f.az.length:Int)::f.az.flatMap nmN
def WU (l:List cB):(nmA l).length=2 *l.length:=by induction l with
 |nil=>rfl
 |cons a l q=>simp only[nmA,p6,cM,bw,eS] at q⊢;omega
def WT:∀{l m:List cB} {x y:List Int},l.length=m.length->nmA l++x=nmA m++y->l=m/\x=y
 |[],[],x,y,_,h=>⟨rfl,by simpa[nmA] using h⟩
 |a::l,b::m,x,y,q,h=>by simp only[nmA,p6,fS,dS,cg] at h;obtain⟨D,G,z⟩:=h;obtain⟨e1,w⟩:=WT (l:=l) (m:=m) (by simpa using q) z;exact⟨by rw[e1];congr 1;cases a;cases b;simp_all,w⟩
 |[],b::m,_,_,q,_=>by simp at q
 |a::l,[],_,_,q,_=>by simp at q
def nmN_inj {a b:Node} {x y:List Int} (h:nmN a++x=nmN b++y):a=b/\x=y:=by simp only[nmN,fS,dS,cg] at h;obtain⟨w,z,q⟩:=h;obtain⟨e1,l⟩:=WT af q;exact⟨by cases a;cases b;simp_all,l⟩
def WV:∀{l m:List Node} {x y:List Int},l.length=m.length->l.flatMap nmN++x=m.flatMap nmN++y->l=m/\x=y
 |[],[],x,y,_,h=>⟨rfl,by simpa using h⟩
 |a::l,b::m,x,y,q,h=>by rw[p6,p6,ew,ew] at h;obtain⟨e1,D⟩:=nmN_inj h;obtain⟨w,z⟩:=WV (by simpa using q) D;exact⟨by rw[e1,w],z⟩
 |[],b::m,_,_,q,_=>by simp at q
 |a::l,[],_,_,q,_=>by simp at q
def nmF_inj {a b:FSt} {x y:List Int} (h:nmF a++x=nmF b++y):a=b:=by simp only[nmF,fS,cg] at h;obtain⟨q,l⟩:=h;have:=(WV af l).1;cases a;cases b;simp_all
structure Sm (f:FSt):Prop where
 n:f.az.length<=5000
 a:∀x∈f.az,x.cu.length<=1000
def h432_8 {f:FSt} {i:Nat} {res:List Int} {l:List cB} (G:l.length<=1000):∀(xs:List cB) (k:Nat) (o:List Int),l.drop k=xs->o.length+2 *xs.length<=100000000->
  KX (IntKind.wrap .i64 ((i:Int)+1)) f (o++nmA xs)=some res->Py (i:Int) l (k:Int) f o=some res:=by
 intro xs;induction xs with
 |nil=>intro k o q _ w;refine abj ?_;rw[bp q,au];simpa[nmA] using w
 |cons x xs D=>intro k o q z w;refine abj ?_;rw[aT q,aj,aP q,aP q,cH _ (by simp at z;omega) ai af,aQ q af];refine D (k+1) _ (aJ q) (by simp at z⊢;omega) ?_;simpa[nmA] using w
def h432_3 {f:FSt} (hf:Sm f):∀(xs:List Node) (i:Nat) (o:List Int),f.az.drop i=xs->o.length+2002 *xs.length<=100000000->KX (i:Int) f o=some (o++xs.flatMap nmN):=by intro xs;induction xs with
 |nil=>intro i o l _;refine abi ?_;rw[bp l,au];simp
 |cons x xs z=>intro i o l q;have w:=hf.a x (bf (cn l));have hn:=hf.n;refine abi ?_;rw[aT l,aj,aP l,aP l,cH _ (by simp at q;omega) ai af];refine h432_8 w x.cu 0 _ rfl (by simp at q⊢;omega) ?_;rw[aQ l af,z (i+1) _ (aJ l) (by simp[WU] at q⊢;omega)];simp[nmN]
def c432 {f:FSt} (hf:Sm f):f432 f=some (nmF f):=by refine e432 ?_;exact h432_3 hf f.az 0 [(f.az.length:Int)] rfl (by have:=hf.n;simp;omega)
def WW:∀{l:List Node},(∀x∈l,x.cu.length<=1000)->(l.flatMap nmN).length<=2002 *l.length
 |[],_=>by simp
 |x::l,h=>by
  have w:=h x ai;have z:=WW (l:=l) λy q=>h y (by simp[q])
  rw[p6,cM,bw];simp only[nmN,cM,bw,eS,WU];omega
def nmF_len {f:FSt} (hf:Sm f):(nmF f).length<=1000000000:=by have:=WW hf.a;have:=hf.n;simp only[nmF,bw];omega
def h418 {l m:List Int} (N:l.length<=1000000000):∀(xs z:List Int) (i:Nat),l.drop i=xs->m.drop i=z->∃r,Px l m (i:Int)=some r/\(r=0↔∃x y,xs++x=z++y):=by intro xs;induction xs with
 |nil=>intro z i q w;refine⟨0,JJ ?_,⟨λ_=>⟨z,[],ai⟩,λ_=>rfl⟩⟩;rw[bp q,au]
 |cons a xs L=>intro z i q w;cases z with
  |nil=>refine⟨0,JJ ?_,⟨λ_=>⟨[],a::xs,ai⟩,λ_=>rfl⟩⟩;rw[aT q,aj,bp w,au]
  |cons b z=>
   by_cases D:a<b
   .refine⟨-1,JJ ?_,⟨λe=>by omega,λ⟨x,y,e⟩=>by simp at e;omega⟩⟩;rw[aT q,aj,aT w,aj,aP q,aP w,cond_pos (by rw[bz];exact D)]
   by_cases G:a>b
   .refine⟨1,JJ ?_,⟨λe=>by omega,λ⟨x,y,e⟩=>by simp at e;omega⟩⟩;rw[aT q,aj,aT w,aj,aP q,aP w,cond_neg (by rw[aS];exact D),aP q,aP w,cond_pos (by rw[bz];exact G)]
   have e:a=b:=af;obtain⟨r,I,K⟩:=L z (i+1) (aJ q) (aJ w);refine⟨r,JJ ?_,K.trans ?_⟩
   .rw[aT q,aj,aT w,aj,aP q,aP w,cond_neg (by rw[aS];exact D),aP q,aP w,cond_neg (by rw[aS];exact G),aQ q af];exact I
   .subst e;simp
def c407 {a b:FSt} (l:Sm a) (z:Sm b):∃r,f407 a b=some r/\(r=true↔a=b):=by obtain⟨r,q,w⟩:=h418 (l:=nmF a) (m:=nmF b) (nmF_len l) _ _ 0 rfl rfl;have D:f418 a b=some r:=e418 (by rw[c432 l,ak,c432 z,ak];exact q);refine⟨r==0,e407 (by rw[D,ak]),?_⟩;rw[gT,w];exact⟨λ⟨x,y,e⟩=>nmF_inj e,λe=>⟨[],[],by rw[e]⟩⟩
def c407_eq {a:FSt} (l:Sm a):f407 a a=some true:=by obtain⟨r,q,w⟩:=c407 l l;rw[q,w.2 rfl]
def Can.sm {T F:Nat} {f:FSt} (h:Can T F f) (hn:f.az.length<=5000) (hF:F<=1000):Sm f:=⟨hn,λx l=>by have:=(h.ao l).len;omega⟩
end Go.Proofs.YtacapiamkgkkjaaGreatDoor.cl.pf
namespace Go.Proofs.YtacapiamkgkkjaaGreatDoor.cl.pf
open Go Go.AM
structure HX (h:aU) (T F:Nat) (sb:Int->Int->Prop) (cD:Int->Int) (val:Int->Int->Int):Prop where
 hv:HV h T F sb cD val
 tl:h.Types.length=T
 ss:∀a b:Int,0<=a->a<(T:Int)->0<=b->b<(T:Int)->∃r,f339 h a b=some r/\f340 h a b=some r/\(r=true↔sb a b)
def c456 {F n:Nat} {x:Node} (ht:0<=x.ee) (q:AO F n x.cu) (K:x.cu.length<=1000000):f456 x (n:Int)=some 0:=by
 have key:∀(xs) (i) (o),x.cu.drop i=xs->(∀a∈xs,getM o a.bM=none)->K3 (n) x.cu (x.cu.length) (i) x o=some 0:=by intro xs;induction xs with
  |nil=>intro i o l _;refine abz ?_;rw[bp l,au]
  |cons a xs G=>
   intro i o l z;have I:=q.ok a (bf (cn l));have D:DK (a::xs):=by rw[<-l];exact List.Pairwise.sublist (List.drop_sublist i _) q.Aj
   refine abz ?_;rw[aT l,aj,aP l,cond_neg (by simp_all),cond_neg (by simp_all),cond_neg (by simp_all),zg (z a ai),B7,aQ l af];refine G _ _ (aJ l) λb w=> ?_
   have:=(dO.1 D).1 b w;grind[G0]
 refine e456 ?_;rw[cond_neg (by simp_all)];exact key _ 0 _ rfl λa _=>rfl
def c489 (l:List cB):f489 l=some l:=e489 rfl
def L7:∀{l:List cB},DK l->AE (l.map λa=>(a.bM,a.To))=true
 |[],_=>rfl
 |x::l,h=>by have q:=dO.1 h;simp only[bu,AE,aK,cF,aD,forall_exists_index,and_imp];refine⟨λp a w e=> ?_,L7 q.2⟩;grind[UN]
def Yv {l:List cB} (h:DK l):tE UN (l.map λa=>(a.bM,a.To))=l.map λa=>(a.bM,a.To):=by
 have key:∀(xs o),DK (o++xs)->(xs.map λa=>(a.bM,a.To)).foldl (λout x=>rW UN x out) (o.map λa=>(a.bM,a.To))=(o++xs).map λa=>(a.bM,a.To):=by intro xs;induction xs with
  |nil=>simp
  |cons x xs D=>
   intro o z;have e:rW UN (x.bM,x.To) (o.map λa=>(a.bM,a.To))=(o++[x]).map λa=>(a.bM,a.To):=by
    have:=JG UN (x:=(x.bM,x.To)) (p:=o.map λa=>(a.bM,a.To)) (q:=[]) (λy q=>by
     obtain⟨a,w,rfl⟩:=aD.1 q;have:=(rD.1 z).2.2 a w x ai
     simp[UN];omega) (λy q=>by cases q)
    simpa using this
   grind
 exact key l [] (by assumption)
def IW:∀l:List cB,AF (l.map cB.enc)=some (l.map λa=>(a.bM,a.To))
 |[]=>rfl
 |x::l=>by show(AF _).map _=_;rw[IW l];rfl
def c490 {l:List cB} (h:DK l) (w:l.length<=1000000):f490 l=some l:=by
 refine xN (E:=EN Q32) ?_;refine tM ?_
 show(match AF (l.map cB.enc) with
  |some l=>bif AE l&&Nat.ble l.length 1073741824 then some (AV.gM [.gM [.self 57, .dy 2 ((tE UN l).map QZ)]],[]) else none
  |none=>none)=_
 rw[IW];have q:Nat.ble (l.map λa=>(a.bM,a.To)).length 1073741824=true:=uC (by rw[bC];omega);simp only[L7 h,q,Yv h,jH,aj,fk];rfl
def NM (n:Nat) (num:List (Int×Int)) (o:List Nat):Prop:=∀x,x<n->getM num (x:Int)=if x∈o then some (o.idxOf x:Int) else none
def NM.snoc {n:Nat} {num:List (Int×Int)} {o:List Nat} (h:NM n num o) {y:Nat} (l:y∉o):NM n (zo num (y:Int) (o.length:Int)) (o++[y]):=by
 intro x q;by_cases e:y=x
 .simp_all[LH,rL]
 .rw[G0 af,h x q];grind
section
variable {T F:Nat} {f:FSt} (hf:Can T F f) (hn:f.az.length<=100000) (hF:F<=1000)
include hf hn hF
theorem h488_3 {k:Nat} (ih:∀(x:Nat) (o:List Nat) (num:List (Int×Int)),x<f.az.length->x∉o->NM f.az.length num o->Met f.az.length o->f.az.length<k+o.length->
   ∃q,f488 (x:Int) f (iT o) num=some ((),iT (nx (kY f) k x o),q)/\NM f.az.length q (nx (kY f) k x o)) {l:List cB} (U:AO F f.az.length l):
  ∀(xs:List cB) (i:Nat) (o:List Nat) (num:List (Int×Int)),l.drop i=xs->NM f.az.length num o->Met f.az.length o->f.az.length<k+o.length->
   ∃q,K6 (l.length:Int) (i:Int) l f num (iT o)=some ((),iT (sC (kY f) k (xs.map λa=>(a.bM,a.To.toNat)) o),q)/\NM f.az.length q (sC (kY f) k (xs.map λa=>(a.bM,a.To.toNat)) o):=by
 have hll:=U.len;intro xs;induction xs with
 |nil=>intro i o num w D _ _;refine⟨_,Uu ?_,D⟩;rw[bp w];rfl
 |cons a xs I=>
  intro i o num w D N S;have ha:=(U.ok a (bf (cn w))).2;obtain⟨x,hx⟩:=fU ha.1;have z:x<f.az.length:=af;have R:a.To.toNat=x:=af;simp[bu,fO,R];by_cases K:x∈o
  .have ev:nx (kY f) k x o=o:=by
    cases k with
    |zero=>rfl
    |succ k=>rw[nx,aB K]
   rw[ev];obtain⟨q,g1,L⟩:=I _ o _ (aJ w) D N S;refine⟨_,Uu ?_,L⟩;have G:=D x z;rw[aB K] at G;rw[aT w,aj,mc w,mb w,hx,zh G,aQ w af];omega
  .obtain⟨num1,f1,N1⟩:=ih x o _ z K D N S;have O:=zQ hf.bd k x o N z;have V:=II (sc:=kY f) k x o;obtain⟨q,g1,L⟩:=I _ _ _ (aJ w) N1 O af;refine⟨_,Uu ?_,L⟩;have G:=D x z;rw[aA K] at G;rw[aT w,aj,mc w,mb w,hx,zg G,f1,bg,aQ w af];omega
theorem h488:∀(k x:Nat) (o:List Nat) (num:List (Int×Int)),x<f.az.length->x∉o->NM f.az.length num o->Met f.az.length o->f.az.length<k+o.length->
  ∃l,f488 (x:Int) f (iT o) num=some ((),iT (nx (kY f) k x o),l)/\NM f.az.length l (nx (kY f) k x o):=by
 intro k;induction k with
 |zero=>intro x o num _ _ _ z N;have:=x4 z.nd z.lt;omega
 |succ k R=>
  intro x o num D w K z N;have O:=x4 z.nd z.lt;have q:=hf.ao (cG D);have L:=q.len;obtain⟨l,S,I⟩:=h488_3 hf hn hF R q _ 0 _ _ rfl (K.snoc w) (z.snoc D w) (by grind);have G:nx (kY f) (k+1) x o=sC (kY f) k (f.az[x].cu.map λa=>(a.bM,a.To.toNat)) (o++[x]):=by rw[nx,aA w,vW _];rfl
  rw[G];refine⟨_,e488 ?_,I⟩;rw[B7,cH _ (by grind[iT]) ai af,cQ D,c489,ak,c490 q.Aj af];simp_all[iT]
theorem h457_12 {i:Nat} (V:i<f.az.length) {L:FSt} {num:List (Int×Int)} (R:NM f.az.length num (List.range f.az.length)) {w:List Node} (I:i<w.length) {N:List Int} {a b:List Node} {res:FSt}
  (hr:K4 (f.az.length:Int) ((i+1:Nat):Int) f L num (w.set i f.az[i]) N a b=some res):∀(xs:List cB) (k:Nat),f.az[i].cu.drop k=xs->
  Fk (i:Int) (i:Int) (f.az.length:Int) (i:Int) (f.az[i].cu.length:Int) (k:Int) f L num w f.az[i].cu N a b=some res:=by
 have z:=hf.ao (cG V);have S:=z.len;intro xs;induction xs with
 |nil=>intro k l;refine WD ?_;rw[bp l,au,cQ _,AY I,aV,u9 I,bQ af];omega
 |cons c xs ih=>
  intro k l;have U:=(z.ok c (bf (cn l))).2;obtain⟨x,K⟩:=fU U.1;have q:x<f.az.length:=af;have hk:=eC l;have G:=R x q;rw[aB (gp.2 q),Mx q] at G;have D :=by have:=cn l;rw[aN hk] at this;exact fB this
  refine WD ?_;rw[aT l,aj,mc l,mb l];have O:wM num c.To=wM num (x) (R:=FSt):=by rw[K]
  rw[O,zh G,mc l,mb l,aQ l af,aV,<-K];have e1:f.az[i].cu.set k ⟨c.bM,c.To⟩=f.az[i].cu:=by
   have:(⟨c.bM,c.To⟩)=f.az[i].cu[k]:=by rw[D]
   grind[List.set_getElem_self]
  rw[e1];exact ih _ (aJ l)
theorem c457:f457 f 0=some f:=by
 obtain⟨w,K,I⟩:=h488 hf hn hF (f.az.length+1) 0 _ [] hf.ne ai (λx S=>rfl) Met.nil ai;have O:nx (kY f) _ 0 _=List.range _:=hf.ord;rw[O] at K I;have D:(iT (List.range f.az.length)).length=f.az.length:=by simp[iT]
 have key:∀(k i),f.az.length=i+k->∀a b:List _,K4 (f.az.length) (i) f ⟨[]⟩ w (f.az.take i++replicate k ⟨0,[]⟩) (iT (List.range f.az.length)) a b=some f:=by intro k;induction k with
  |zero=>simp_all[abA]
  |succ k U=>
   intro i R a b;have q:i<f.az.length:=af;have l:=hf.ao (cG q);have N:=l.len;refine abA ?_;have z:(iT (List.range f.az.length)).getD i 0=(i):=by unfold iT;rw[jY (by simp_all)];simp
   rw[cond_pos (by grind),sG af,z,cQ q,c489,ak,c490 l.Aj af,ak];refine h457_12 hf hn hF _ I (by simp_all) ?_ _ 0 rfl;have e:(f.az.take i++replicate (k+1) (⟨0,[]⟩:Node)).set i f.az[i]=f.az.take (i+1)++replicate k ⟨0,[]⟩:=by
    have G:(f.az.take i).length=i:=by rw[fC];omega
    rw[pS _ _ af,G,nK,dr,aN _,ew];rfl
   grind
 refine e457 ?_;have L:f488 0 f [] _=some _:=K;rw[L,bg,bU ⟨af,by omega,by omega,af⟩,D];have:=key f.az.length 0 af [] [];assumption
theorem c437 (I:f.az.length<=4096):f437 f=some (f,0):=by
 have G:=hf.ne;have key:∀(xs) (i),f.az.drop i=xs->PB f.az (f.az.length) (i) f ⟨[]⟩=some (f,0):=by intro xs;induction xs with
  |nil=>intro i l;refine abn ?_;rw[bp l,au,c457 hf hn hF,ak]
  |cons x xs D=>intro i l;have w:=bf (cn l);have q:=hf.ao w;have z:=q.len;refine abn ?_;rw[aT l,aj,aP l,c456 (hf.tyr w).1 q af,ak,cond_neg (by rfl),aQ l af];exact D _ (aJ l)
 refine e437 ?_;grind
end
