/- The least well-typed feature structure (the reference's Infe. -/
import Derived.Test.YthphfjcnkinkpaaGreatDoorClXk
set_option linter.all false
namespace Go.Proofs.YthphfjcnkinkpaaGreatDoor.cl.pf
open Go Go.AM
def c471 {a b:List Int} (D:a.length=b.length) (hn:a.length<=1000000):f471 a b=some (decide (a=b)):=by
 have key:∀(k i),a.length=i+k->QT a b (i)=some (decide (a.drop i=b.drop i)):=by intro k;induction k with
  |zero=>simp_all[ac8]
  |succ k w=>
   intro i z;have l:i<a.length:=af;have q:i<b.length:=af;refine ac8 ?_;rw[cond_pos (by simp_all),cH l,cH q,bM af,w _ af,iW l,iW q];by_cases e:a[i]=b[i]
   .rw[cond_neg (by simp_all)];simp only[cR,e,ew]
   .rw[cond_pos (by simp_all)];simp only[cR,e,false_and,zJ]
 exact e471 (key a.length 0 af)
section
variable {h:aJ} {T F:Nat} {sb:Int->Int->Prop} {bN:Int->Int} {val:Int->Int->Int} (H:HV h T F sb bN val) {f:FSt} (hf:Can T F f) (hn:f.ak.length<=140000) (hT:T<=1000) (hF:F<=1000)
def Prc (sb:Int->Int->Prop) (bN:Int->Int) (val:Int->Int->Int) (old l:List Int) (n:Nat) (a:b9):Prop:=sb (bN a.bB) (l.getD n 0)/\∃t,sb (old.getD n 0) t/\sb t (l.getD n 0)/\sb (val t a.bB) (l.getD a.To.toNat 0)
def UpT (sb:Int->Int->Prop) (N:Nat) (a b:List Int):Prop:=∀n,n<N->sb (a.getD n 0) (b.getD n 0)
include H hf hn hF
theorem Prc.up {old q l:List Int} (z:UpT sb f.ak.length q l) {n:Nat} (w:n<f.ak.length) {a:b9} (L:a∈f.ak[n].bV) (h:Prc sb bN val old q n a):Prc sb bN val old l n a:=by obtain⟨D,t,G,I,K⟩:=h;obtain⟨_,N,_⟩:=arcN H hf hn hF _ L;exact⟨H.hm.to.trans D (z n w),t,G,H.hm.to.trans I (z n w),H.hm.to.trans K (z _ af)⟩
theorem c477 {tl:List Int} (S:TS T sb bN val f tl) {n:Nat} (w:n<f.ak.length) {a:b9} (ha:a∈f.ak[n].bV):
  (∃D,f477 h (n:Int) a tl=some (true,D)/\TS T sb bN val f D/\UpT sb f.ak.length tl D/\Prc sb bN val tl D n a)\/
  ((∃D,f477 h (n:Int) a tl=some (false,D))/\∀z,Br sb bN val f z->False):=by
 obtain⟨q,hto,L⟩:=arcN H hf hn hF w ha;obtain⟨t,ht⟩:=fU hto.1;have G:t<f.ak.length:=af;have htt:a.To.toNat=t:=af;obtain⟨i1,i2⟩:=H.int a.bB q.1 q.2;have V:n<tl.length:=by rw[S.len];exact w
 have hfl:=H.fl;have r:=S.rg n w;have N:∀z,Br sb bN val f z->sb (bN a.bB) (z n):=λz l=>((l n w).2 _ L).1
 rcases H.hm.mt _ _ r.1 r.2 i2.1 i2.2 with⟨m,m1,m2,R,m4,m5⟩|⟨m,m1,m2,R⟩
 .have K:=S.raise H w R m4 m5 N;have XH:t<(tl.set n m).length:=by rw[K.len];exact G
  have mr:=H.hm.to.rr R;obtain⟨_,v1,v2⟩:=H.vl m a.bB mr.1 mr.2 q.1 q.2 m4;have r1:=K.rg t G;have e1:(tl.set n m).getD n 0=m:=by simp_all
  have O:∀z,Br sb bN val f z->sb (val m a.bB) (z t):=λz l=>by have:=((l n w).2 _ L).2;rw[htt] at this;have h2:=K.dD z l n w;rw[e1] at h2;exact H.hm.to.trans (H.mono _ _ _ q.1 q.2 m4 h2) this
  have up1:UpT sb f.ak.length tl (tl.set n m):=λx I=>by
   rw[fC];by_cases e:n=x
   .simp_all
   .rw[az (λh=>e h.1)];exact H.hm.to.refl (S.rg x I).1 (S.rg x I).2
  rcases H.hm.mt _ _ r1.1 r1.2 v2.1 v2.2 with⟨u,u1,u2,u3,u4,u5⟩|⟨u,u1,u2,u3⟩
  .have S2:=K.raise H G u3 u4 u5 O;have U:UpT sb f.ak.length (tl.set n m) ((tl.set n m).set t u):=λx I=>by
    rw[fC (tl.set n m)];by_cases e:t=x
    .simp_all
    .rw[az (λh=>e h.1)];exact H.hm.to.refl (K.rg x I).1 (K.rg x I).2
   refine .inl ⟨(tl.set n m).set t u,e477 ?_,S2,λx I=>H.hm.to.trans (up1 x I) (U x I),?_⟩
   .rw[tU V,yM q.1 af,i1,m2,aj,cond_neg (by rfl),tU V,v1,aj,ht,aZ n];grind[tU,aj,Int.toNat_natCast]
   .have:=U n w;rw[e1] at this;refine⟨H.hm.to.trans m4 this,m,R,this,?_⟩;simp_all
  .refine .inr ⟨⟨(tl.set n m).set t u,e477 ?_⟩,λz l=>u3 _ (K.dD z l t G) (O z l)⟩;rw[tU V,yM q.1 af,i1];grind[tU]
 .refine .inr ⟨⟨tl,e477 ?_⟩,λz l=>R _ (S.dD _ l n w) (N _ l)⟩;rw[tU V,yM q.1 af,i1,m2,aj,cond_pos (by rfl)]
theorem h441_14 {old:List Int} {o4:FSt} {n:Nat} (D:n<f.ak.length):∀(xs:List b9) (k:Nat) (l:List Int),f.ak[n].bV.drop k=xs->TS T sb bN val f l->UpT sb f.ak.length old l->(∀a∈f.ak[n].bV.take k,Prc sb bN val old l n a)->
  (∃q,TS T sb bN val f q/\UpT sb f.ak.length old q/\UpT sb f.ak.length l q/\(∀a∈f.ak[n].bV,Prc sb bN val old q n a)/\∀r,xN old ((n+1:Nat):Int) h f o4 q=some r->xO old (n:Int) f.ak[n].bV (k:Int) h f o4 l=some r)\/
  (xO old (n:Int) f.ak[n].bV (k:Int) h f o4 l=some (⟨[]⟩,false)/\∀τ,Br sb bN val f τ->False):=by
 have hal:=(hf.ao (bU D)).len;intro xs;induction xs with
 |nil=>intro k l w S N L;rw[iG (mI w)] at L;refine .inl ⟨l,S,N,λx z=>H.hm.to.refl (S.rg x z).1 (S.rg x z).2,L,λr R=>Pe ?_⟩;rw[bp w,aA,bM af];omega
 |cons a xs ih=>
  intro k l w S N L;have ha:=aV (cr w);rcases c477 H hf hn hF S D ha with⟨I,O,S1,V,p1⟩|⟨⟨I,O⟩,K⟩
  .have hp1:Prc sb bN val old I n a:=by
    obtain⟨q1,t,q2,q3,q4⟩:=p1;exact⟨q1,t,H.hm.to.trans (N n D) q2,q3,q4⟩
   have U:UpT sb f.ak.length old I:=λx z=>H.hm.to.trans (N x z) (V x z)
   have step:∀r,xO old (n:Int) f.ak[n].bV ((k+1:Nat):Int) h f o4 I=some r->xO old (n:Int) f.ak[n].bV (k:Int) h f o4 l=some r:=λr R=>by refine Pe ?_;rw[aT w,au,aK w,O,mw,cond_neg (by rfl),aQ w af];omega
   rcases ih (k+1) I (aI w) S1 U (λb G=>by
    rw[c7,cr w] at G;rcases bu.1 G with G|G
    .exact Prc.up H hf hn hF V _ (vO G) (L b G)
    simp_all) with⟨c2,S2,u2,u3,p2,g2⟩|⟨g2,K⟩
   .exact .inl ⟨c2,S2,u2,λx z=>H.hm.to.trans (V x z) (u3 x z),p2,λr R=>step _ (g2 r R)⟩
   simp_all
  .refine .inr ⟨Pe ?_,K⟩;rw[aT w,au,aK w,O,mw,cond_pos (by rfl)]
theorem h441_10 {old:List Int} {o4:FSt}:∀(k i:Nat) (l:List Int),f.ak.length=i+k->TS T sb bN val f l->UpT sb f.ak.length old l->(∀n,(w:n<f.ak.length)->n<i->∀a∈f.ak[n].bV,Prc sb bN val old l n a)->
  (∃q,TS T sb bN val f q/\UpT sb f.ak.length old q/\(∀n,(w:n<f.ak.length)->∀a∈f.ak[n].bV,Prc sb bN val old q n a)/\∀r,(Option.bind (f471 old q) λD=>AH (!D) h f o4 q)=some r->xN old (i:Int) h f o4 l=some r)\/
  (xN old (i:Int) h f o4 l=some (⟨[]⟩,false)/\∀τ,Br sb bN val f τ->False):=by
 intro k;induction k with
 |zero=>intro i l hi S N K;refine .inl ⟨l,S,N,λn w=>K n w af,λr L=>XW ?_⟩;simp_all
 |succ k ih=>
  intro i l hi S N K;have z:i<f.ak.length:=af;have step:∀r,xO old (i:Int) f.ak[i].bV 0 h f o4 l=some r->xN old (i:Int) h f o4 l=some r:=λr L=>by refine XW ?_;rw[cond_pos (by grind),cH z];omega
  rcases h441_14 H hf hn hF (old:=old) (o4:=o4) z f.ak[i].bV 0 l rfl S N (λa G=>by cases G) with⟨c1,U,u1,u2,p1,O⟩|⟨O,I⟩
  .rcases ih (i+1) _ af U u1 (λn w hlt a G=>by
    by_cases e:n=i
    .simp_all
    .exact Prc.up H hf hn hF u2 _ G (K n _ af a G)) with⟨c2,V,u3,p2,R⟩|⟨R,I⟩
   .exact .inl ⟨c2,V,u3,p2,λr L=>step _ (O _ (R r L))⟩
   simp_all
  simp_all
omit H hf hF in
theorem h441_21 {D:FSt} {tl:List Int} (q:tl.length=f.ak.length):∀(k i:Nat),f.ak.length=i+k->Jt (i:Int) f D tl ((Bh f tl).ak.take i)=some (Bh f tl,true):=by intro k;induction k with
 |zero=>intro i w;refine XX ?_;rw[cond_neg (by rw[aS];omega),iG (by rw[vC q];omega)]
 |succ k z=>intro i w;have l:i<f.ak.length:=af;refine XX ?_;rw[cond_pos (by rw[bA];omega),tU af,cH l,cC _ (by rw[fh];omega) ai af,bM af];have:=z (i+1) af;rw[c7,FQ q l] at this;exact this
theorem h441_7 {o4:FSt}:∀(M:Nat) (l:List Int),room T l<=M->TS T sb bN val f l->UL T sb bN val f (AH true h f o4 l):=by
 intro M;induction M using Nat.strongRecOn with
 |ind M ih=>
 intro l hM S;have step:∀r,xN l 0 h f o4 l=some r->AH true h f o4 l=some r:=λr hr=>by refine acX ?_;rw[au,cC _ ai (by rw[S.len];omega) af,dK];omega
 rcases h441_10 H hf hn hF (old:=l) (o4:=o4) f.ak.length 0 l af S (λx U=>H.hm.to.refl (S.rg x U).1 (S.rg x U).2) (λn _ N=>absurd N af) with⟨I,G,u1,p1,K⟩|⟨K,O⟩
 .have z:=c471 (a:=l) (b:=I) (by rw[S.len,G.len]) (by rw[S.len];omega)
  rcases Yu (b:=I) (by rw[S.len,G.len]) (λn q=>by
   rw[S.len] at q
   exact⟨(S.rg n q).1,H.le _ _ (u1 n q),(G.rg n q).2⟩) with e|e
  .subst e;refine .inl ⟨_,step _ (K _ ?_),S,λn q p R=> ?_⟩
   .rw[z];simp;refine acX ?_;rw[aA];exact h441_21 hn S.len f.ak.length 0 af
   .rw[wM q] at R;obtain⟨a,V,rfl⟩:=aD.1 R;obtain⟨L,t,D,q3,q4⟩:=p1 n _ a V;have et:=H.hm.to.anti q3 D;simp_all
  .have hne:l≠I:=λe2=>by simp_all
   have:=ih _ af _ (aR _) G;have w:∀r,AH true h f o4 I=some r->AH _ h f _ _=some r:=λr hr=>step _ (K _ (by simp_all))
   rcases this with⟨YR,L,D⟩|⟨L,D⟩
   .exact .inl ⟨_,w _ L,D⟩
   .exact .inr ⟨w _ L,D⟩
 .exact .inr ⟨step _ K,O⟩
theorem c441:UL T sb bN val f (f441 h f):=by
 have S:=TS.init H hf hn hF;have D:=h441_7 H hf hn hF (o4:=⟨[]⟩) _ (f.ak.map (·.di)) (aR _) S;have key:∀r,AH true h f ⟨[]⟩ (f.ak.map (·.di))=some r->∀(k i:Nat),f.ak.length=i+k->QL (i:Int) h f ⟨[]⟩ ((f.ak.take i).map (·.di))=some r:=by intro r z k;induction k with
  |zero=>intro i G;have e:i=f.ak.length:=af;subst e;refine acW ?_;grind
  |succ k I=>intro i G;have l:i<f.ak.length:=af;refine acW ?_;rw[cond_pos (by grind),cH l,cC _ aH ai af,bM af];have:=I (i+1) af;rw[c7] at this;grind
 have step :=λr z=>e441 (key r z f.ak.length 0 af)
 rcases D with⟨tl,q,w⟩|⟨q,w⟩
 .exact .inl ⟨tl,step _ q,w⟩
 .exact .inr ⟨step _ q,w⟩
end
def WT (sb:Int->Int->Prop) (bN:Int->Int) (val:Int->Int->Int) (f:FSt):Prop:=∀n,n<f.ak.length->Mn sb bN val f (oB f) n
structure TLub (T F:Nat) (sb:Int->Int->Prop) (bN:Int->Int) (val:Int->Int->Int) (A B f:FSt):Prop where
 can:Can T F f
 wt:WT sb bN val f
 l:Le sb A f
 r:Le sb B f
 least:∀C,Can T F C->WT sb bN val C->Le sb A C->Le sb B C->Le sb f C
 cov:∀P,Cov A P->Cov B P->Cov f P
section
variable {h:aJ} {T F:Nat} {sb:Int->Int->Prop} {bN:Int->Int} {val:Int->Int->Int} (H:HV h T F sb bN val)
include H
theorem XI {L C:FSt} (D:Can T F L) (z:Can T F C) (I:WT sb bN val C) {m:Nat->Nat} (q:tK sb (jj L) 0 (jj C) 0 m):Br sb bN val L (λx=>oB C (m x)):=λn hn=>by have w:=D.Eo hn;have l:=q.2 n w;refine⟨l.1,λp G=> ?_⟩;exact I (m n) (z.IL (q.Eo w)) _ (l.2 p G)
theorem S8 {A B L:FSt} (l:RL T F sb A B L) {res:Option (FSt×Bool)} (hr:UL T sb bN val L res):
  (∃f,res=some (f,true)/\TLub T F sb bN val A B f)\/(res=some (⟨[]⟩,false)/\∀C,Can T F C->WT sb bN val C->Le sb A C->Le sb B C->False):=by
 rcases hr with⟨tl,e,S,hs⟩|⟨e,V⟩
 .have q:=S.len;have K:Can T F (Bh L tl):=l.can.Bh q S.rg;have U:Le sb L (Bh L tl):=by
   refine⟨id,rfl,λi z=>⟨?_,λp w=> ?_⟩⟩
   .show sb (oB L i) (oB (Bh L tl) i);rw[GV q (l.can.IL z)];exact S.up i (l.can.IL z)
   .show p∈iN (Bh L tl) i;rw[Ck q];exact w
  refine .inl ⟨Bh L tl,e,K,λn hn p w=> ?_,Le.trans H.hm.to l.l U,Le.trans H.hm.to l.r U,λC I hw D G=> ?_,λP hA hB k hk=> ?_⟩
  .rw[vC q] at hn;rw[Ck q] at w;have:=hs n hn p w;rw[GV q hn,GV q (l.can.bd n hn p w)];exact this
  .obtain⟨m,O⟩:=l.least C I D G;have R:=XI H l.can I hw O;refine⟨m,O.1,λi z=> ?_⟩;have z:kO (iN L) 0 i:=by
    have:kO (iN (Bh L tl)) 0 i:=z
    rw[Ck q] at this;exact this
   have N:=l.can.IL z;refine⟨?_,λp w=> ?_⟩
   .show sb (oB (Bh L tl) i) _;rw[GV q N];exact S.dD _ R i N
   .have w:p∈iN (Bh L tl) i:=w;rw[Ck q] at w;exact(O.2 i z).2 p w
  .rw[vC q] at hk;obtain⟨π,D,G⟩:=l.cov P hA hB k hk;exact⟨π,D,by rw[rty_at q];exact G⟩
 .refine .inr ⟨e,λC I hw D G=> ?_⟩;obtain⟨m,O⟩:=l.least C I D G;exact V _ (XI H l.can I hw O)
variable {A B:FSt} (hA:Can T F A) (hB:Can T F B) (hT:T<=1000) (hF:F<=300) {P Q:Nat} (hn:A.ak.length+B.ak.length<=140000)
theorem Can.cov {f:FSt} (hf:Can T F f):∃P,Cov f P/\P.length<=f.ak.length:=by
 have:∀k,k<f.ak.length->∃π,oN f π=some k:=λk l=>by have K:=hf.Eo l;clear l;induction K with
  |root=>exact⟨[],rfl⟩
  | @step n p hn I w=>obtain⟨π,hπ⟩:=w;exact⟨π++[p.1],BF.2 ⟨n,hπ,(xM (hf.vP n)).2 I⟩⟩
 have key:∀N,N<=f.ak.length->∃P:List (List Int),P.length<=N/\∀k,k<N->∃π∈P,oN f π=some k:=by intro N;induction N with
  |zero=>intro _;exact⟨[],aR _,λk l=>absurd l af⟩
  |succ N w=>
   intro O;obtain⟨P,z,q⟩:=w af;obtain⟨π,hπ⟩:=this N af;refine⟨π::P,by simp;omega,λk l=> ?_⟩;by_cases e:k=N
   .subst e;exact⟨π,by simp,hπ⟩
   .obtain⟨L,D,G⟩:=q k af;exact⟨L,by simp[D],G⟩
 obtain⟨P,z,q⟩:=key f.ak.length (aR _);exact⟨P,q,z⟩
include hA hB in
theorem RL.size {L:FSt} (w:RL T F sb A B L):L.ak.length<=A.ak.length+B.ak.length:=by obtain⟨P,l,z⟩:=Can.cov H hA;obtain⟨Q,q,D⟩:=Can.cov H hB;have:=(w.cov (P++Q) (l.mono λπ h=>cM _ h) (q.mono λπ h=>gz _ h)).le;rw[bQ] at this;omega
include hA hB hT hF hn
include hA hB hT hF hn
end
end Go.Proofs.YthphfjcnkinkpaaGreatDoor.cl.pf
namespace Go.Proofs.YthphfjcnkinkpaaGreatDoor.cl.pf
open Go Go.AM
def wS:Nat->List Int->Int->List Node
 |_,[],t=>[⟨t,[]⟩]
 |k,f::π,t=>⟨0,[⟨f,(k+1:Nat)⟩]⟩::wS (k+1) π t
def sR (π:List Int) (t:Int):FSt:=⟨wS 0 π t⟩
def EY:∀(k:Nat) (π:List Int) (t:Int),(wS k π t).length=π.length+1
 |_,[],_=>rfl
 |k,f::π,t=>by simp only[wS,bz,EY (k+1) π t]
def r7 (π:List Int) (t:Int):(sR π t).ak.length=π.length+1:=EY 0 π t
def vV:∀(k:Nat) (π:List Int) (t:Int) (i:Nat),(wS k π t)[i]? =if h:i<π.length then some ⟨0,[⟨π[i],(k+i+1:Nat)⟩]⟩ else if i=π.length then some ⟨t,[]⟩ else none
 |k,[],t,0=>by simp[wS]
 |k,[],t,i+1=>by simp[wS]
 |k,f::π,t,0=>by simp[wS]
 |k,f::π,t,i+1=>by
  simp only[wS,rO,vV (k+1) π t i,bz,Nat.add_lt_add_iff_right,vi,Nat.add_right_cancel_iff];by_cases h:i<π.length
  .simp only[h,dite_true];congr 4;omega
  .simp only[h,dite_false]
def Gv {π:List Int} {t:Int} {i:Nat} (h:i<π.length):iN (sR π t) i=[(π[i],i+1)]:=by
 unfold iN
 have:(sR π t).ak[i]? =some ⟨0,[⟨π[i],(0+i+1:Nat)⟩]⟩:=by show(wS 0 π t)[i]? =_;rw[vV,kC h]
 rw[this];simp[UJ]
def vW {π:List Int} {t:Int}:iN (sR π t) π.length=[]:=by
 unfold iN
 have:(sR π t).ak[π.length]? =some ⟨t,[]⟩:=by show(wS 0 π t)[π.length]? =_;rw[vV,rW (rP _),aB rfl]
 rw[this];rfl
def abe {π:List Int} {t:Int} {i:Nat} (h:i<π.length):oB (sR π t) i=0:=by
 unfold oB
 have:(sR π t).ak[i]? =some ⟨0,[⟨π[i],(0+i+1:Nat)⟩]⟩:=by show(wS 0 π t)[i]? =_;rw[vV,kC h]
 rw[this]
def DS {π:List Int} {t:Int}:oB (sR π t) π.length=t:=by
 unfold oB
 have:(sR π t).ak[π.length]? =some ⟨t,[]⟩:=by show(wS 0 π t)[π.length]? =_;rw[vV,rW (rP _),aB rfl]
 rw[this]
def Xk:∀(k:Nat) (π:List Int) (t:Int),∀x∈wS k π t,∀a∈x.bV,0<=a.To
 |_,[],t,x,l,a,q=>by simp[wS] at l;subst l;cases q
 |k,f::π,t,x,l,a,q=>by
  simp only[wS,aN] at l;rcases l with rfl|l
  .simp at q;subst q;show 0<=((k+1:Nat):Int);omega
  .exact Xk (k+1) π t x l a q
def chn_go {T F:Nat} (hT:0<T) {π:List Int} {t:Int} (hπ:∀f∈π,0<=f/\f<(F:Int)) (ht:0<=t/\t<(T:Int)):GO T F (jj (sR π t)) (sR π t).ak.length:=by
 rw[r7];refine⟨λi q p l=> ?_,λi q=> ?_,λi q p l=> ?_,λi q=> ?_⟩<;>by_cases h:i<π.length
 .have l:p∈iN (sR π t) i:=l;rw[Gv h] at l;simp at l;subst l;show i+1<_;omega
 .have l:p∈iN (sR π t) i:=l;have e:i=π.length:=af;rw[e,vW] at l;cases l
 .show wV (iN _ i);rw[Gv h];exact rU _ _
 .have e:i=π.length:=af;show wV (iN _ i);rw[e,vW];exact wV.nil
 .have l:p∈iN (sR π t) i:=l;rw[Gv h] at l;simp at l;subst l;exact hπ _ (bU h)
 .have l:p∈iN (sR π t) i:=l;have e:i=π.length:=af;rw[e,vW] at l;cases l
 .show 0<=oB _ i/\oB _ i<_;rw[abe h];omega
 .have e:i=π.length:=af;show 0<=oB _ i/\oB _ i<_;rw[e,DS];exact ht
def chn_vis {π:List Int} {t:Int}:∀(j i k:Nat),π.length=i+j->j<k->nq (iN (sR π t)) k i (List.range i)=List.range (π.length+1):=by intro j;induction j with
 |zero=>
  intro i k l q;have e:i=π.length:=af;obtain⟨k,rfl⟩:∃k',k=k'+1:=⟨k-1,af⟩
  rw[nq,az ai,e,vW,kE];rfl
 |succ j w=>
  intro i k l q;obtain⟨k,rfl⟩:∃k',k=k'+1:=⟨k-1,af⟩
  rw[nq,az ai,Gv af,<-kE];exact w (i+1) k af af
def vt {T F:Nat} (hT:0<T) {π:List Int} {t:Int} (hπ:∀f∈π,0<=f/\f<(F:Int)) (ht:0<=t/\t<(T:Int)):Can T F (sR π t):=by refine DR (by rw[r7];omega) (chn_go hT hπ ht) (Xk 0 π t) ?_;rw[r7];exact chn_vis π.length 0 _ af af
def J8 {π:List Int} {t:Int}:∀(i:Nat),i<=π.length->oN (sR π t) (π.take i)=some i:=by intro i;induction i with
 |zero=>intro _;rfl
 |succ i l=>intro q;rw[c7,aM (by omega:i<π.length)];refine BF.2 ⟨i,l af,?_⟩;show Bp (iN _ i) _=_;rw[Gv af];simp[Bp]
def at_take {C:Gr} {n k:Nat} {π:List Int} (h:AZ C n π=some k) (i:Nat):∃j,AZ C n (π.take i)=some j/\AZ C j (π.drop i)=some k:=by rw[<-nK i π,vQ,dy] at h;obtain⟨j,l,q⟩:=h;refine⟨j,l,q⟩
def M3 (C:Gr) (π:List Int) (i:Nat):Nat:=(AZ C 0 (π.take i)).getD 0
theorem Oo {C:Gr} {k:Nat} {π:List Int} (h:AZ C 0 π=some k) (i:Nat):AZ C 0 (π.take i)=some (M3 C π i):=by obtain⟨j,l,_⟩:=at_take h i;unfold M3;rw[l];rfl
def IV {C:Gr} {k:Nat} {π:List Int} (h:AZ C 0 π=some k):M3 C π π.length=k:=by unfold M3;rw[gp,h];rfl
def Bu {C:Gr} (z:Det C) {k:Nat} {π:List Int} (h:AZ C 0 π=some k) {i:Nat} (D:i<π.length):(π[i],M3 C π (i+1))∈C.sc (M3 C π i):=by have l:=Oo h (i+1);rw[c7,aM D] at l;obtain⟨j,q,w⟩:=BF.1 l;rw[Oo h i] at q;cases q;exact(xM (z _)).1 w
section
variable {T F:Nat} {sb:Int->Int->Prop} (hT:TO T sb) {π:List Int} {t:Int} (hπ:∀f∈π,0<=f/\f<(F:Int)) (ht:0<=t/\t<(T:Int))
include hT hπ ht
theorem OE {C:FSt} (q:Can T F C):Le sb (sR π t) C↔∃k,oN C π=some k/\sb t (oB C k):=by
 have w:0<T:=af;have z:=vt (F:=F) w hπ ht;constructor
 .rintro⟨m,I⟩;have e:=J8 (π:=π) (t:=t) π.length (aR _);rw[gp] at e;refine⟨m π.length,A6 z q I e,?_⟩;have:=(I.2 π.length (z.Eo (by rw[r7];omega))).1;have K:(jj (sR π t)).ty π.length=t:=DS;rw[K] at this;exact this
 .rintro⟨k,G,O⟩;refine⟨M3 (jj C) π,by simp[M3,AZ],λi L=> ?_⟩;have D:=z.IL L;rw[r7] at D;by_cases h:i<π.length
  .refine⟨?_,λp l=> ?_⟩
   .show sb (oB (sR π t) i) _;rw[abe h];have N:=xm (λi _=>q.vP i) _ 0 _ .root (Oo G i);have:=q.go.tp _ (q.IL N);exact hT.top this.1 this.2
   .have l:p∈iN (sR π t) i:=l;rw[Gv h] at l;simp at l;subst l;exact Bu q.Mk G h
  .have e:i=π.length:=af;subst e;refine⟨?_,λp l=> ?_⟩
   .show sb (oB (sR π t) _) _;rw[DS,IV G];exact O
   .have l:p∈iN (sR π t) π.length:=l;rw[vW] at l;cases l
end
def Zn (π:List Int) (t:Int):wS 0 π t=(wS 0 π t).take π.length++[⟨t,[]⟩]:=by
 have h:(wS 0 π t).drop π.length=[⟨t,[]⟩]:=by apply kK;intro i;rw[wW,vV];cases i with
  |zero=>simp
  |succ i=>rw[rW af,az af];simp
 rw[<-h,nK]
def R3 {p:List Int} (z:p.length<=1000000) (t:Int):f426 p ⟨[⟨t,[]⟩]⟩=some (sR p t):=by
 refine e426 ?_;have key:∀(k i:Nat),p.length=i+k->G6 p p (p.length:Int) (i:Int) ⟨[⟨t,[]⟩]⟩ ⟨[]⟩ ((wS 0 p t).take i)=some (sR p t):=by intro k;induction k with
  |zero=>intro i q;have e:i=p.length:=af;subst e;refine Pb ?_;rw[cond_neg (by rw[aS];omega)];refine Pc ?_;rw[cond_pos (by rfl),jE];refine Pa ?_;rw[cond_neg (by rfl),cC _ (by rw[fh,EY];omega) ai af,<-Zn];refine Pc ?_;rw[cond_neg (by rfl)];rfl
  |succ k w=>intro i q;have l:i<p.length:=af;refine Pb ?_;rw[cond_pos (by rw[bA];omega),cH l,cC _ (by rw[fh,EY];omega) ai af,bM af];have:=w (i+1) af;rw[c7,vV,kC l] at this;simpa using this
 have:=key p.length 0 af;simpa using this
end Go.Proofs.YthphfjcnkinkpaaGreatDoor.cl.pf
namespace Go.Proofs.YthphfjcnkinkpaaGreatDoor.cl.pf
open Go Go.AM
def sb0 (a b:Int):Prop:=a=0/\b=0
def to0:TO 1 sb0:=⟨λh=>by have:=h.1;omega,λh=>by have:=h.2;omega,λh l=>⟨af,af⟩,λh l=>⟨h.1,l.2⟩,λh l=>by rw[h.1,h.2],λh l=>⟨rfl,af⟩⟩
def Can.up {T T' F:Nat} {f:FSt} (h:Can T F f) (hT:T<=T'):Can T' F f:=
 ⟨h.ne,⟨h.go.bd,h.go.vP,h.go.ft,λn hn=>⟨(h.go.tp n hn).1,by have:=(h.go.tp n hn).2;omega⟩⟩,h.eq⟩
structure Shr (F:Nat) (A B:List Int) (f:FSt):Prop where
 can:Can 1 F f
 at_:∃k,oN f A=some k/\oN f B=some k
 least:∀(C:FSt) (T':Nat) (sb:Int->Int->Prop),TO T' sb->Can T' F C->(∃k,oN C A=some k/\oN C B=some k)->Le sb f C
def Shr.le {F T:Nat} {sb:Int->Int->Prop} (hT:TO T sb) {A B:List Int} {f C:FSt} (h:Shr F A B f) (l:1<=T) (q:Can T F C):Le sb f C↔∃k,oN C A=some k/\oN C B=some k:=by
 constructor
 .rintro⟨m,w⟩;obtain⟨k,z,D⟩:=h.at_;exact⟨_,A6 (h.can.up l) q w z,A6 (h.can.up l) q w D⟩
 .exact h.least C T _ hT q
def le_zero {T F:Nat} {sb:Int->Int->Prop} (hT:TO T sb) {f C:FSt} (hf:Can 1 F f) (w:Can T F C) (h:Le sb0 f (Bh C (List.replicate C.ak.length 0))):Le sb f C:=by
 obtain⟨m,q⟩:=h;have z:(List.replicate C.ak.length (0:Int)).length=C.ak.length:=ai;have I:Can 1 F _:=w.Bh z λi l=>by simp_all
 refine⟨m,q.1,λi l=>⟨?_,λp G=> ?_⟩⟩
 .have K:=hf.go.tp i (hf.IL l);have e:(jj f).ty i=0:=af;rw[e];have D:=I.IL (q.Eo l);rw[vC z] at D;have:=w.go.tp _ D;exact hT.top this.1 this.2
 .have:=(q.2 i l).2 p G;grind[jj,Ck]
def aa9 {T F:Nat} {C:FSt} (l:Can T F C):Can 1 F (Bh C (List.replicate C.ak.length 0)):=l.Bh ai λi q=>by simp_all
end Go.Proofs.YthphfjcnkinkpaaGreatDoor.cl.pf
namespace Go.Proofs.YthphfjcnkinkpaaGreatDoor.cl.pf
open Go Go.AM
def AGood (l:List b9) (n:Int):Prop:=(∀a∈l,0<=a.bB/\0<=a.To/\a.To<n)/\(l.map (·.bB)).Nodup
def Hh (f:FSt):Prop:=0<f.ak.length/\f.ak.length<=4096/\∀x∈f.ak,0<=x.di/\AGood x.bV f.ak.length
def Hh.aaY {f:FSt} (h:Hh f) (w:∀x∈f.ak,x.bV.length<=1000000):Og f:=λx l=>⟨w x l,λa q=>by have:=(h.2.2 x l).2.1 a q;omega⟩
def Y5 (l:List (List b9)):Nat->List Int->Nat->Prop
 |x,[],y=>x=y
 |x,f::π,y=>∃z:Nat,(⟨f,(z:Int)⟩:b9)∈l.getD x []/\Y5 l z π y
def Y5.snoc {q:List (List b9)} {f:Int} {z:Nat}:∀{π:List Int} {x y:Nat},Y5 q x π y->(⟨f,(z:Int)⟩:b9)∈q.getD y []->Y5 q x (π++[f]) z
 |[],x,y,h,l=>by cases h;exact⟨z,l,rfl⟩
 |g::π,x,y,⟨w,D,h⟩,l=>⟨w,D,Y5.snoc h l⟩
def Y5.mono {q z:List (List b9)} (h:∀x,∀a∈q.getD x [],a∈z.getD x []):∀{π:List Int} {x y:Nat},Y5 q x π y->Y5 z x π y
 |[],_,_,l=>l
 |_::π,x,y,⟨w,D,l⟩=>⟨w,h x _ D,Y5.mono h l⟩
def zk (A:List Int):List (List b9):=(List.range (A.length+1)).map λj=>match A[j]? with
 |some f=>[⟨f,(j+1:Nat)⟩]
 |none=>[]
def CF {A:List Int} {j:Nat} (h:j<A.length):(zk A).getD j []=[⟨A[j],(j+1:Nat)⟩]:=by grind[zk]
def EW {A:List Int} {j:Nat} (h:A.length<=j):(zk A).getD j []=[]:=by unfold zk;grind
def OD {A:List Int}:∀i,i<=A.length->Y5 (zk A) 0 (A.take i) i
 |0,_=>rfl
 |i+1,h=>by rw[c7,aM af];exact(OD i af).snoc (by rw[CF af];simp)
section
variable {F:Nat} {A B:List Int} (hA:∀f∈A,0<=f/\f<(F:Int)) (hB:∀f∈B,0<=f/\f<(F:Int)) (hAl:A.length<=1000) (hBl:B.length<=1000) (hF:F<=1000) (hB0:B≠[]) (hnp:¬B<+:A)
structure SI (F:Nat) (A B:List Int) (n i:Nat) (ys:List (List b9)):Prop where
 len:A.length+1<=ys.length
 le:ys.length<=A.length+1+i
 aw:∀x,x<ys.length->AW F ys.length (ys.getD x [])
 pa:Y5 ys 0 A A.length
 pb:Y5 ys 0 (B.take i) n
 nlt:n<ys.length
 dD:∀(C:FSt) (T' k:Nat),Can T' F C->oN C A=some k->oN C B=some k->∃m:Nat->Nat,m 0=0/\m A.length=k/\m n=M3 (jj C) B i/\∀x,x<ys.length->∀a∈ys.getD x [],(a.bB,m a.To.toNat)∈iN C (m x)
 ph:ys.getD n []=[]\/(n=i/\i<=A.length/\B.take i=A.take i/\ys=zk A)
theorem add_get {l:List (List b9)} {n x:Nat} {a:b9} (hn:n<l.length):(l.set n (l.getD n []++[a])).getD x []=if n=x then l.getD n []++[a] else l.getD x []:=by grind
theorem AW.snoc {F n:Nat} {l:List b9} (h:AW F n l) {a:b9} (G:(0<=a.bB/\a.bB<(F:Int))/\0<=a.To/\a.To<(n:Int)) (w:fa l a.bB=none):AW F n (l++[a]):=by
 refine⟨?_,λb q=> ?_⟩
 .rw[cE,jq];refine⟨h.nd,by simp,λx D y z=> ?_⟩;simp at z;subst z;obtain⟨b,q,rfl⟩:=aD.1 D;exact Xw w b q
 .rcases bu.1 q with q|q
  .exact h.ok b q
  simp_all
theorem AW.more {F n w:Nat} {l:List b9} (h:AW F n l) (hn:n<=w):AW F w l:=⟨h.nd,λb q=>⟨(h.ok b q).1,(h.ok b q).2.1,by have:=(h.ok b q).2.2;omega⟩⟩
include hA in
theorem SI.init:SI F A B 0 0 (zk A):=by
 have z:(zk A).length=A.length+1:=by simp[zk]
 refine⟨af,by omega,λx q=> ?_,?_,rfl,by omega,λC G k D w I=>⟨M3 (jj C) A,rfl,IV w,rfl,λx q a l=> ?_⟩, .inr ⟨rfl,by omega,rfl,rfl⟩⟩
 .rw[z] at q⊢;by_cases h:x<A.length
  .rw[CF h];exact⟨ai,λa l=>by simp at l;subst l;exact⟨hA _ (bU h),by show 0<=((x+1:Nat):Int);omega,by show((x+1:Nat):Int)<((A.length+1:Nat):Int);omega⟩⟩
  .rw[EW af];exact⟨ai,λa l=>by cases l⟩
 .have:=OD (A:=A) A.length (aR _);rwa[gp] at this
 .rw[z] at q;by_cases h:x<A.length
  .rw[CF h] at l;simp at l;subst l;exact Bu D.Mk w h
  .rw[EW af] at l;cases l
include hB in
theorem SI.go {n i:Nat} {K:List (List b9)} (I:SI F A B n i K) (L:i<B.length) {a:b9} (U:fa (K.getD n []) B[i]=some a):0<=a.To/\SI F A B a.To.toNat (i+1) K:=by
 obtain⟨q,z⟩:=IZ U;rcases I.ph with h|⟨rfl,V,G,rfl⟩
 .rw[h] at q;cases q
 .have w:n<A.length:=by
   by_cases h:n<A.length
   .exact h
   .rw[EW af] at q;cases q
  rw[CF w] at q;simp at q;subst q;have z:A[n]=B[n]:=z;have hl:(zk A).length=A.length+1:=by simp[zk]
  have l:B.take (n+1)=A.take (n+1):=by rw[c7,c7,G,aM L,aM w,z]
  refine⟨by show 0<=((n+1:Nat):Int);omega,?_⟩;show SI F A B ((n+1:Nat):Int).toNat (n+1) (zk A);rw[aZ];refine⟨I.len,by have:=I.le;omega,I.aw,I.pa,?_,by omega,λC R k D k1 N=> ?_, .inr ⟨rfl,by omega,l,rfl⟩⟩
  .rw[l];exact OD (n+1) af
  .obtain⟨m,m0,m1,m2,O⟩:=I.dD C R k D k1 N;refine⟨m,m0,m1,?_,O⟩;have e1:=O n I.nlt ⟨A[n],(n+1:Nat)⟩ (by rw[CF w];simp);have S:=Bu D.Mk N L;simp only at e1;rw[m2,z,aZ] at e1;exact(D.vP _).Mk e1 S
include hB in
theorem SI.new {n i:Nat} {l:List (List b9)} (I:SI F A B n i l) (O:i<B.length) (N:fa (l.getD n []) B[i]=none):SI F A B l.length (i+1) (l.set n (l.getD n []++[(⟨B[i],(l.length:Nat)⟩:b9)])++[[]]):=by
 have V:(l.set n (l.getD n []++[(⟨B[i],(l.length:Nat)⟩:b9)])++[[]]).length=l.length+1:=ai;have L:∀x,x<l.length->(l.set n (l.getD n []++[(⟨B[i],(l.length:Nat)⟩:b9)])++[[]]).getD x []=if n=x then l.getD n []++[(⟨B[i],(l.length:Nat)⟩:b9)] else l.getD x []:=λx K=>by rw[Ag (by simpa using K),add_get I.nlt]
 have G:(l.set n (l.getD n []++[(⟨B[i],(l.length:Nat)⟩:b9)])++[[]]).getD l.length []=[]:=by rw[D0 ai];simp
 have z:∀x,∀b∈l.getD x [],b∈(l.set n (l.getD n []++[(⟨B[i],(l.length:Nat)⟩:b9)])++[[]]).getD x []:=λx b D=>by
  by_cases K:x<l.length
  .rw[L x K];by_cases e:n=x
   .subst e;rw[aB rfl];exact cM _ D
   .rw[az e];exact D
  .rw[bw,gA af] at D;cases D
 have R:=I.nlt;have hIl:=I.len;have U:=I.le;refine⟨af,by omega,λx K=> ?_,I.pa.mono z,?_,by omega,λC T' k S k1 k2=> ?_, .inl G⟩
 .rw[V] at K⊢;by_cases w:x<l.length
  .rw[L x w];by_cases e:n=x
   .subst e;rw[aB rfl];exact((I.aw n w).more af).snoc ⟨hB _ (bU O),by show 0<=((l.length:Nat):Int);omega,by show((l.length:Nat):Int)<((l.length+1:Nat):Int);omega⟩ N
   .rw[az e];exact(I.aw x w).more af
  .have e:x=l.length:=af;subst e;rw[G];exact⟨ai,λa N=>by cases N⟩
 .rw[c7,aM O];exact(I.pb.mono z).snoc (by rw[L n R,aB rfl];simp)
 .obtain⟨m,m0,m1,m2,m3⟩:=I.dD C T' k S k1 k2;refine⟨λx=>if x=l.length then M3 (jj C) B (i+1) else m x,?_,?_,by simp,λx K a q=> ?_⟩
  .show(if 0=l.length then _ else _)=0;rw[az af];exact m0
  .show(if A.length=l.length then _ else _)=k;rw[az af];exact m1
  .rw[V] at K;by_cases w:x<l.length
   .rw[L x w] at q;have old:∀b∈l.getD x [],(b.bB,if b.To.toNat=l.length then M3 (jj C) B (i+1) else m b.To.toNat)∈iN C (if x=l.length then M3 (jj C) B (i+1) else m x):=λb D=>by
     have:=((I.aw x w).ok b D).2;rw[az af,az af];exact m3 x w b D
    by_cases e:n=x
    .subst e;rw[aB rfl] at q;rcases bu.1 q with q|q
     .exact old a q
     .simp at q;subst q;show(B[i],if((l.length:Nat):Int).toNat=l.length then _ else _)∈iN C (if n=l.length then _ else _);rw[aZ,aB rfl,az af,m2];exact Bu S.Mk k2 O
    .rw[az e] at q;exact old a q
   .have e:x=l.length:=af;subst e;rw[G] at q;cases q
include hA hB hB0 hnp hAl hBl hF in
include hA hB hB0 hnp hAl hBl hF in
end
end Go.Proofs.YthphfjcnkinkpaaGreatDoor.cl.pf
namespace Go.Proofs.YthphfjcnkinkpaaGreatDoor.cl.pf
open Go Go.AM
def nmA (l:List b9):List Int:=l.flatMap λa=>[a.bB,a.To]
def nmN (x:Node):List Int:=[x.di,(x.bV.length:Int)]++nmA x.bV
def nmF (f:FSt):List Int:=(f.ak.length:Int)::f.ak.flatMap nmN
theorem Yj (l:List b9):(nmA l).length=2 *l.length:=by induction l with
 |nil=>rfl
 |cons a l q=>simp[nmA,rT,bQ,bz,eO] at q⊢;omega
def Yi:∀{l m:List b9} {x y:List Int},l.length=m.length->nmA l++x=nmA m++y->l=m/\x=y
 |[],[],x,y,_,h=>⟨rfl,by assumption⟩
 |a::l,b::m,x,y,q,h=>by simp[nmA,rT,gF,cR] at h;obtain⟨D,G,z⟩:=h;obtain⟨e1,w⟩:=Yi (by simp_all) z;exact⟨by cases a;simp_all,w⟩
 |[],b::m,_,_,q,_=>by simp at q
 |a::l,[],_,_,q,_=>by simp at q
def nmN_inj {a b:Node} {x y:List Int} (h:nmN a++x=nmN b++y):a=b/\x=y:=by simp[nmN,gF,cR] at h;obtain⟨w,z,q⟩:=h;obtain⟨e1,l⟩:=Yi af q;exact⟨by cases a;simp_all,l⟩
def Yk:∀{l m:List Node} {x y:List Int},l.length=m.length->l.flatMap nmN++x=m.flatMap nmN++y->l=m/\x=y
 |[],[],x,y,_,h=>⟨rfl,by assumption⟩
 |a::l,b::m,x,y,q,h=>by rw[rT,rT,ee,ee] at h;obtain⟨e1,w⟩:=nmN_inj h;obtain⟨z,D⟩:=Yk (by simp_all) w;simp_all
 |[],b::m,_,_,q,_=>by simp at q
 |a::l,[],_,_,q,_=>by simp at q
def nmF_inj {a b:FSt} {x y:List Int} (h:nmF a++x=nmF b++y):a=b:=by simp[nmF,gF,cR] at h;obtain⟨q,l⟩:=h;have:=(Yk af l).1;cases a;simp_all
structure Sm (f:FSt):Prop where
 n:f.ak.length<=5000
 a:∀x∈f.ak,x.bV.length<=1000
def h432_8 {f:FSt} {i:Nat} {res:List Int} {l:List b9} (D:l.length<=1000):∀(xs:List b9) (k:Nat) (o:List Int),l.drop k=xs->o.length+2 *xs.length<=100000000->
  LU (IntKind.wrap .i64 ((i:Int)+1)) f (o++nmA xs)=some res->QG (i:Int) l (k:Int) f o=some res:=by
 intro xs;induction xs with
 |nil=>intro k o q _ w;refine acR ?_;rw[bp q];simpa[nmA] using w
 |cons x xs z=>intro k o q G w;refine acR ?_;rw[aT q,au,aK q,aK q,cC _ af ai af,aQ q af];refine z _ _ (aI q) (by grind) ?_;simpa[nmA] using w
def h432_3 {f:FSt} (hf:Sm f):∀(xs:List Node) (i:Nat) (o:List Int),f.ak.drop i=xs->o.length+2002 *xs.length<=100000000->LU (i:Int) f o=some (o++xs.flatMap nmN):=by intro xs;induction xs with
 |nil=>intro i o l _;refine acQ ?_;grind
 |cons x xs w=>intro i o l z;have q:=hf.a x (aV (cr l));have hn:=hf.n;refine acQ ?_;rw[aT l,au,aK l,aK l,cC _ af ai af];refine h432_8 q _ 0 _ rfl (by grind) ?_;rw[aQ l af,w _ _ (aI l) (by grind[Yj])];simp[nmN]
def c432 {f:FSt} (hf:Sm f):f432 f=some (nmF f):=by refine e432 ?_;exact h432_3 hf _ 0 _ rfl (by have:=hf.n;grind)
def Yl:∀{l:List Node},(∀x∈l,x.bV.length<=1000)->(l.flatMap nmN).length<=2002 *l.length
 |[],_=>by simp
 |x::l,h=>by
  have w:=Yl (l:=l) λy q=>h y (by simp[q])
  grind[nmN,Yj]
def nmF_len {f:FSt} (hf:Sm f):(nmF f).length<=1000000000:=by have:=Yl hf.a;have:=hf.n;grind[nmF]
def h418 {l m:List Int} (N:l.length<=1000000000):∀(xs z:List Int) (i:Nat),l.drop i=xs->m.drop i=z->∃r,QF l m (i:Int)=some r/\(r=0↔∃x y,xs++x=z++y):=by intro xs;induction xs with
 |nil=>intro z i q w;refine⟨0,KF ?_,⟨λ_=>⟨z,[],ai⟩,λ_=>rfl⟩⟩;rw[bp q,aA]
 |cons a xs G=>intro z i q w;cases z with
  |nil=>refine⟨0,KF ?_,⟨λ_=>⟨[],a::xs,ai⟩,λ_=>rfl⟩⟩;rw[aT q,au,bp w,aA]
  |cons b z=>
   by_cases K:a<b
   .refine⟨-1,KF ?_,⟨λe=>by omega,λ⟨x,y,e⟩=>by simp_all⟩⟩;rw[aT q,au,aT w,au,aK q,aK w,cond_pos (by simp_all)]
   by_cases L:a>b
   .refine⟨1,KF ?_,⟨λe=>by omega,λ⟨x,y,e⟩=>by simp_all⟩⟩;rw[aT q,au,aT w,au,aK q,aK w,cond_neg (by simp_all),aK q,aK w,cond_pos (by simp_all)]
   have e:a=b:=af;obtain⟨r,I,D⟩:=G _ _ (aI q) (aI w);refine⟨r,KF ?_,D.trans ?_⟩
   .rw[aT q,au,aT w,au,aK q,aK w,cond_neg (by simp_all),aK q,aK w,cond_neg (by simp_all),aQ q af];omega
   simp_all
def c407 {a b:FSt} (q:Sm a) (z:Sm b):∃r,f407 a b=some r/\(r=true↔a=b):=by obtain⟨r,w,l⟩:=h418 (m:=nmF b) (nmF_len q) _ _ 0 rfl rfl;have D:f418 a b=some r:=e418 (by simp_all[c432]);refine⟨r==0,e407 (by simp_all),?_⟩;rw[iV,l];exact⟨λ⟨x,y,e⟩=>nmF_inj e,λe=>⟨[],[],by rw[e]⟩⟩
def c407_eq {a:FSt} (l:Sm a):f407 a a=some true:=by obtain⟨r,q,w⟩:=c407 l l;simp_all
def srG_grF {f:FSt} (h:∀x∈f.ak,IA x.bV):yA f=jj f:=by
 unfold yA jj;congr 1;funext n;by_cases hn:n<f.ak.length
 .rw[yx hn,wM _,srt_id (h _ (bU _))];rfl
 simp_all[Qe,AB]
def InB (T F:Nat) (x:Node):Prop:=x.di<(T:Int)/\∀a∈x.bV,a.bB<(F:Int)
def srG_go {T F:Nat} {f:FSt} (q:Hh f) (D:∀x∈f.ak,x.bV.length<=1000) (z:∀x∈f.ak,InB T F x):GO T F (yA f) f.ak.length:=by
 refine⟨Qh (q.aaY λx G=>by grind),λn hn=> ?_,λn hn p w=> ?_,λn hn=> ?_⟩
 .show wV (AB f n);rw[yx _];have:=Qi (q.2.2 _ (bU hn)).2.2;unfold wV;rw[jI];exact this
 .have w:p∈AB f n:=w;rw[yx hn] at w;obtain⟨a,l,rfl⟩:=aD.1 w;have l:=(qI _).2.2 a|>.1 l
  exact⟨((q.2.2 _ (bU _)).2.1 a l).1,(z _ (bU _)).2 a l⟩
 .show 0<=oB f n/\_;have e:(yA f).ty n=f.ak[n].di:=uF _;rw[e,uF hn];exact⟨(q.2.2 _ (bU _)).1,(z _ (bU _)).1⟩
def Can.good {T F:Nat} {f:FSt} (h:Can T F f) (hn:f.ak.length<=4096):Hh f:=
 ⟨h.ne,hn,λx l=>⟨(h.tyr l).1,λa q=>⟨((h.ao l).ok a q).1.1,((h.ao l).ok a q).2⟩,(h.ao l).vP.nd⟩⟩
def Can.sr {T F:Nat} {f:FSt} (h:Can T F f):kj (yA f) f.ak.length 0=f:=by rw[srG_grF λx l=>(h.ao l).vP];exact h.eq.symm
def Can.sm {T F:Nat} {f:FSt} (h:Can T F f) (hn:f.ak.length<=5000) (hF:F<=1000):Sm f:=⟨hn,λx l=>by have:=(h.ao l).len;omega⟩
