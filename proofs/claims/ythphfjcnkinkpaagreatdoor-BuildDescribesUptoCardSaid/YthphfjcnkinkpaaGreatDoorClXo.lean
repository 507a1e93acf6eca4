/- The least well-typed feature structure (the reference's Infe. -/
import Derived.Test.YthphfjcnkinkpaaGreatDoorClXk
set_option linter.all false
namespace Go.Proofs.YthphfjcnkinkpaaGreatDoor.cl.pf
open Go Go.AM
def c471 {a b:List Int} (D:a.length=b.length) (hn:a.length<=1000000):f471 a b=some (decide (a=b)):=by
 have key:∀(k i),a.length=i+k->QL a b (i)=some (decide (a.drop i=b.drop i)):=by intro k;induction k with
  |zero=>simp_all[ac0]
  |succ k w=>
   intro i z;have l:i<a.length:=af;have q:i<b.length:=af;refine ac0 ?_;rw[cond_pos (by simp_all),bU l,bU q,bM af,w _ af,iH l,iH q];by_cases e:a[i]=b[i]
   .rw[cond_neg (by simp_all)];simp only[cV,e,eH]
   .rw[cond_pos (by simp_all)];simp only[cV,e,false_and,zg]
 exact e471 (key a.length 0 af)
section
variable {h:aK} {T F:Nat} {sb:Int->Int->Prop} {bQ:Int->Int} {val:Int->Int->Int} (H:HV h T F sb bQ val) {f:FSt} (hf:Can T F f) (hn:f.au.length<=140000) (hT:T<=1000) (hF:F<=1000)
def Prc (sb:Int->Int->Prop) (bQ:Int->Int) (val:Int->Int->Int) (old l:List Int) (n:Nat) (a:cz):Prop:=sb (bQ a.bw) (l.getD n 0)/\∃t,sb (old.getD n 0) t/\sb t (l.getD n 0)/\sb (val t a.bw) (l.getD a.To.toNat 0)
def UpT (sb:Int->Int->Prop) (N:Nat) (a b:List Int):Prop:=∀n,n<N->sb (a.getD n 0) (b.getD n 0)
include H hf hn hF
theorem Prc.up {old q l:List Int} (z:UpT sb f.au.length q l) {n:Nat} (w:n<f.au.length) {a:cz} (L:a∈f.au[n].bJ) (h:Prc sb bQ val old q n a):Prc sb bQ val old l n a:=by obtain⟨D,t,G,I,K⟩:=h;obtain⟨_,N,_⟩:=arcN H hf hn hF _ L;exact⟨H.hm.to.trans D (z n w),t,G,H.hm.to.trans I (z n w),H.hm.to.trans K (z _ af)⟩
theorem c477 {tl:List Int} (S:TS T sb bQ val f tl) {n:Nat} (w:n<f.au.length) {a:cz} (ha:a∈f.au[n].bJ):
  (∃D,f477 h (n:Int) a tl=some (true,D)/\TS T sb bQ val f D/\UpT sb f.au.length tl D/\Prc sb bQ val tl D n a)\/
  ((∃D,f477 h (n:Int) a tl=some (false,D))/\∀z,A5 sb bQ val f z->False):=by
 obtain⟨q,hto,L⟩:=arcN H hf hn hF w ha;obtain⟨t,ht⟩:=dM hto.1;have G:t<f.au.length:=af;have htt:a.To.toNat=t:=af;obtain⟨i1,i2⟩:=H.int a.bw q.1 q.2;have V:n<tl.length:=by rw[S.len];exact w
 have hfl:=H.fl;have r:=S.rg n w;have N:∀z,A5 sb bQ val f z->sb (bQ a.bw) (z n):=λz l=>((l n w).2 _ L).1
 rcases H.hm.mt _ _ r.1 r.2 i2.1 i2.2 with⟨m,m1,m2,R,m4,m5⟩|⟨m,m1,m2,R⟩
 .have K:=S.raise H w R m4 m5 N;have XA:t<(tl.set n m).length:=by rw[K.len];exact G
  have mr:=H.hm.to.rr R;obtain⟨_,v1,v2⟩:=H.vl m a.bw mr.1 mr.2 q.1 q.2 m4;have r1:=K.rg t G;have e1:(tl.set n m).getD n 0=m:=by simp_all
  have O:∀z,A5 sb bQ val f z->sb (val m a.bw) (z t):=λz l=>by have:=((l n w).2 _ L).2;rw[htt] at this;have h2:=K.dG z l n w;rw[e1] at h2;exact H.hm.to.trans (H.mono _ _ _ q.1 q.2 m4 h2) this
  have up1:UpT sb f.au.length tl (tl.set n m):=λx I=>by
   rw[eF];by_cases e:n=x
   .simp_all
   .rw[az (λh=>e h.1)];exact H.hm.to.refl (S.rg x I).1 (S.rg x I).2
  rcases H.hm.mt _ _ r1.1 r1.2 v2.1 v2.2 with⟨u,u1,u2,u3,u4,u5⟩|⟨u,u1,u2,u3⟩
  .have S2:=K.raise H G u3 u4 u5 O;have U:UpT sb f.au.length (tl.set n m) ((tl.set n m).set t u):=λx I=>by
    rw[eF (tl.set n m)];by_cases e:t=x
    .simp_all
    .rw[az (λh=>e h.1)];exact H.hm.to.refl (K.rg x I).1 (K.rg x I).2
   refine .inl ⟨(tl.set n m).set t u,e477 ?_,S2,λx I=>H.hm.to.trans (up1 x I) (U x I),?_⟩
   .rw[qE V,yp q.1 af,i1,m2,aj,cond_neg (by rfl),qE V,v1,aj,ht,aT n];grind[qE,aj,Int.toNat_natCast]
   .have:=U n w;rw[e1] at this;refine⟨H.hm.to.trans m4 this,m,R,this,?_⟩;simp_all
  .refine .inr ⟨⟨(tl.set n m).set t u,e477 ?_⟩,λz l=>u3 _ (K.dG z l t G) (O z l)⟩;rw[qE V,yp q.1 af,i1];grind[qE]
 .refine .inr ⟨⟨tl,e477 ?_⟩,λz l=>R _ (S.dG _ l n w) (N _ l)⟩;rw[qE V,yp q.1 af,i1,m2,aj,cond_pos (by rfl)]
theorem h441_14 {old:List Int} {o4:FSt} {n:Nat} (D:n<f.au.length):∀(xs:List cz) (k:Nat) (l:List Int),f.au[n].bJ.drop k=xs->TS T sb bQ val f l->UpT sb f.au.length old l->(∀a∈f.au[n].bJ.take k,Prc sb bQ val old l n a)->
  (∃q,TS T sb bQ val f q/\UpT sb f.au.length old q/\UpT sb f.au.length l q/\(∀a∈f.au[n].bJ,Prc sb bQ val old q n a)/\∀r,xB old ((n+1:Nat):Int) h f o4 q=some r->xC old (n:Int) f.au[n].bJ (k:Int) h f o4 l=some r)\/
  (xC old (n:Int) f.au[n].bJ (k:Int) h f o4 l=some (⟨[]⟩,false)/\∀τ,A5 sb bQ val f τ->False):=by
 have hal:=(hf.ao (bB D)).len;intro xs;induction xs with
 |nil=>intro k l w S N L;rw[gK (kJ w)] at L;refine .inl ⟨l,S,N,λx z=>H.hm.to.refl (S.rg x z).1 (S.rg x z).2,L,λr R=>O0 ?_⟩;rw[aW w,aA,bM af];omega
 |cons a xs ih=>
  intro k l w S N L;have ha:=aR (bV w);rcases c477 H hf hn hF S D ha with⟨I,O,S1,V,p1⟩|⟨⟨I,O⟩,K⟩
  .have hp1:Prc sb bQ val old I n a:=by
    obtain⟨q1,t,q2,q3,q4⟩:=p1;exact⟨q1,t,H.hm.to.trans (N n D) q2,q3,q4⟩
   have U:UpT sb f.au.length old I:=λx z=>H.hm.to.trans (N x z) (V x z)
   have step:∀r,xC old (n:Int) f.au[n].bJ ((k+1:Nat):Int) h f o4 I=some r->xC old (n:Int) f.au[n].bJ (k:Int) h f o4 l=some r:=λr R=>by refine O0 ?_;rw[aP w,ak,aJ w,O,j9,cond_neg (by rfl),aN w af];omega
   rcases ih (k+1) I (aH w) S1 U (λb G=>by
    rw[cM,bV w] at G;rcases bu.1 G with G|G
    .exact Prc.up H hf hn hF V _ (s9 G) (L b G)
    simp_all) with⟨c2,S2,u2,u3,p2,g2⟩|⟨g2,K⟩
   .exact .inl ⟨c2,S2,u2,λx z=>H.hm.to.trans (V x z) (u3 x z),p2,λr R=>step _ (g2 r R)⟩
   simp_all
  .refine .inr ⟨O0 ?_,K⟩;rw[aP w,ak,aJ w,O,j9,cond_pos (by rfl)]
theorem h441_10 {old:List Int} {o4:FSt}:∀(k i:Nat) (l:List Int),f.au.length=i+k->TS T sb bQ val f l->UpT sb f.au.length old l->(∀n,(w:n<f.au.length)->n<i->∀a∈f.au[n].bJ,Prc sb bQ val old l n a)->
  (∃q,TS T sb bQ val f q/\UpT sb f.au.length old q/\(∀n,(w:n<f.au.length)->∀a∈f.au[n].bJ,Prc sb bQ val old q n a)/\∀r,(Option.bind (f471 old q) λD=>Ae (!D) h f o4 q)=some r->xB old (i:Int) h f o4 l=some r)\/
  (xB old (i:Int) h f o4 l=some (⟨[]⟩,false)/\∀τ,A5 sb bQ val f τ->False):=by
 intro k;induction k with
 |zero=>intro i l hi S N K;refine .inl ⟨l,S,N,λn w=>K n w af,λr L=>XR ?_⟩;simp_all
 |succ k ih=>
  intro i l hi S N K;have z:i<f.au.length:=af;have step:∀r,xC old (i:Int) f.au[i].bJ 0 h f o4 l=some r->xB old (i:Int) h f o4 l=some r:=λr L=>by refine XR ?_;rw[cond_pos (by grind),bU z];omega
  rcases h441_14 H hf hn hF (old:=old) (o4:=o4) z f.au[i].bJ 0 l rfl S N (λa G=>by cases G) with⟨c1,U,u1,u2,p1,O⟩|⟨O,I⟩
  .rcases ih (i+1) _ af U u1 (λn w hlt a G=>by
    by_cases e:n=i
    .simp_all
    .exact Prc.up H hf hn hF u2 _ G (K n _ af a G)) with⟨c2,V,u3,p2,R⟩|⟨R,I⟩
   .exact .inl ⟨c2,V,u3,p2,λr L=>step _ (O _ (R r L))⟩
   simp_all
  simp_all
omit H hf hF in
theorem h441_21 {D:FSt} {tl:List Int} (q:tl.length=f.au.length):∀(k i:Nat),f.au.length=i+k->I4 (i:Int) f D tl ((AX f tl).au.take i)=some (AX f tl,true):=by intro k;induction k with
 |zero=>intro i w;refine XS ?_;rw[cond_neg (by rw[aQ];omega),gK (by rw[xw q];omega)]
 |succ k z=>intro i w;have l:i<f.au.length:=af;refine XS ?_;rw[cond_pos (by rw[bg];omega),qE af,bU l,cC _ (by rw[e7];omega) ai af,bM af];have:=z (i+1) af;rw[cM,Fh q l] at this;exact this
theorem h441_7 {o4:FSt}:∀(M:Nat) (l:List Int),room T l<=M->TS T sb bQ val f l->UF T sb bQ val f (Ae true h f o4 l):=by
 intro M;induction M using Nat.strongRecOn with
 |ind M ih=>
 intro l hM S;have step:∀r,xB l 0 h f o4 l=some r->Ae true h f o4 l=some r:=λr hr=>by refine acN ?_;rw[ak,cC _ ai (by rw[S.len];omega) af,dQ];omega
 rcases h441_10 H hf hn hF (old:=l) (o4:=o4) f.au.length 0 l af S (λx U=>H.hm.to.refl (S.rg x U).1 (S.rg x U).2) (λn _ N=>absurd N af) with⟨I,G,u1,p1,K⟩|⟨K,O⟩
 .have z:=c471 (a:=l) (b:=I) (by rw[S.len,G.len]) (by rw[S.len];omega)
  rcases Ym (b:=I) (by rw[S.len,G.len]) (λn q=>by
   rw[S.len] at q
   exact⟨(S.rg n q).1,H.le _ _ (u1 n q),(G.rg n q).2⟩) with e|e
  .subst e;refine .inl ⟨_,step _ (K _ ?_),S,λn q p R=> ?_⟩
   .rw[z];simp;refine acN ?_;rw[aA];exact h441_21 hn S.len f.au.length 0 af
   .rw[sN q] at R;obtain⟨a,V,rfl⟩:=aG.1 R;obtain⟨L,t,D,q3,q4⟩:=p1 n _ a V;have et:=H.hm.to.anti q3 D;simp_all
  .have hne:l≠I:=λe2=>by simp_all
   have:=ih _ af _ (aZ _) G;have w:∀r,Ae true h f o4 I=some r->Ae _ h f _ _=some r:=λr hr=>step _ (K _ (by simp_all))
   rcases this with⟨YK,L,D⟩|⟨L,D⟩
   .exact .inl ⟨_,w _ L,D⟩
   .exact .inr ⟨w _ L,D⟩
 .exact .inr ⟨step _ K,O⟩
theorem c441:UF T sb bQ val f (f441 h f):=by
 have S:=TS.init H hf hn hF;have D:=h441_7 H hf hn hF (o4:=⟨[]⟩) _ (f.au.map (·.cR)) (aZ _) S;have key:∀r,Ae true h f ⟨[]⟩ (f.au.map (·.cR))=some r->∀(k i:Nat),f.au.length=i+k->QD (i:Int) h f ⟨[]⟩ ((f.au.take i).map (·.cR))=some r:=by intro r z k;induction k with
  |zero=>intro i G;have e:i=f.au.length:=af;subst e;refine acM ?_;grind
  |succ k I=>intro i G;have l:i<f.au.length:=af;refine acM ?_;rw[cond_pos (by grind),bU l,cC _ aI ai af,bM af];have:=I (i+1) af;rw[cM] at this;grind
 have step :=λr z=>e441 (key r z f.au.length 0 af)
 rcases D with⟨tl,q,w⟩|⟨q,w⟩
 .exact .inl ⟨tl,step _ q,w⟩
 .exact .inr ⟨step _ q,w⟩
end
def WT (sb:Int->Int->Prop) (bQ:Int->Int) (val:Int->Int->Int) (f:FSt):Prop:=∀n,n<f.au.length->HY sb bQ val f (mI f) n
structure TLub (T F:Nat) (sb:Int->Int->Prop) (bQ:Int->Int) (val:Int->Int->Int) (A B f:FSt):Prop where
 can:Can T F f
 wt:WT sb bQ val f
 l:Le sb A f
 r:Le sb B f
 least:∀C,Can T F C->WT sb bQ val C->Le sb A C->Le sb B C->Le sb f C
 cov:∀P,Cov A P->Cov B P->Cov f P
section
variable {h:aK} {T F:Nat} {sb:Int->Int->Prop} {bQ:Int->Int} {val:Int->Int->Int} (H:HV h T F sb bQ val)
include H
theorem XC {L C:FSt} (D:Can T F L) (z:Can T F C) (I:WT sb bQ val C) {m:Nat->Nat} (q:yW sb (jI L) 0 (jI C) 0 m):A5 sb bQ val L (λx=>mI C (m x)):=λn hn=>by have w:=D.LX hn;have l:=q.2 n w;refine⟨l.1,λp G=> ?_⟩;exact I (m n) (z.Ms (q.LX w)) _ (l.2 p G)
theorem abS {A B L:FSt} (l:Uw T F sb A B L) {res:Option (FSt×Bool)} (hr:UF T sb bQ val L res):
  (∃f,res=some (f,true)/\TLub T F sb bQ val A B f)\/(res=some (⟨[]⟩,false)/\∀C,Can T F C->WT sb bQ val C->Le sb A C->Le sb B C->False):=by
 rcases hr with⟨tl,e,S,hs⟩|⟨e,V⟩
 .have q:=S.len;have K:Can T F (AX L tl):=l.can.AX q S.rg;have U:Le sb L (AX L tl):=by
   refine⟨id,rfl,λi z=>⟨?_,λp w=> ?_⟩⟩
   .show sb (mI L i) (mI (AX L tl) i);rw[Gq q (l.can.Ms z)];exact S.up i (l.can.Ms z)
   .show p∈iD (AX L tl) i;rw[BZ q];exact w
  refine .inl ⟨AX L tl,e,K,λn hn p w=> ?_,Le.trans H.hm.to l.l U,Le.trans H.hm.to l.r U,λC I hw D G=> ?_,λP hA hB k hk=> ?_⟩
  .rw[xw q] at hn;rw[BZ q] at w;have:=hs n hn p w;rw[Gq q hn,Gq q (l.can.bd n hn p w)];exact this
  .obtain⟨m,O⟩:=l.least C I D G;have R:=XC H l.can I hw O;refine⟨m,O.1,λi z=> ?_⟩;have z:qG (iD L) 0 i:=by
    have:qG (iD (AX L tl)) 0 i:=z
    rw[BZ q] at this;exact this
   have N:=l.can.Ms z;refine⟨?_,λp w=> ?_⟩
   .show sb (mI (AX L tl) i) _;rw[Gq q N];exact S.dG _ R i N
   .have w:p∈iD (AX L tl) i:=w;rw[BZ q] at w;exact(O.2 i z).2 p w
  .rw[xw q] at hk;obtain⟨π,D,G⟩:=l.cov P hA hB k hk;exact⟨π,D,by rw[rty_at q];exact G⟩
 .refine .inr ⟨e,λC I hw D G=> ?_⟩;obtain⟨m,O⟩:=l.least C I D G;exact V _ (XC H l.can I hw O)
variable {A B:FSt} (hA:Can T F A) (hB:Can T F B) (hT:T<=1000) (hF:F<=300) {P Q:Nat} (hn:A.au.length+B.au.length<=140000)
theorem Can.cov {f:FSt} (hf:Can T F f):∃P,Cov f P/\P.length<=f.au.length:=by
 have:∀k,k<f.au.length->∃π,oW f π=some k:=λk l=>by have K:=hf.LX l;clear l;induction K with
  |root=>exact⟨[],rfl⟩
  | @step n p hn I w=>obtain⟨π,hπ⟩:=w;exact⟨π++[p.1],Eg.2 ⟨n,hπ,(xA (hf.wT n)).2 I⟩⟩
 have key:∀N,N<=f.au.length->∃P:List (List Int),P.length<=N/\∀k,k<N->∃π∈P,oW f π=some k:=by intro N;induction N with
  |zero=>intro _;exact⟨[],aZ _,λk l=>absurd l af⟩
  |succ N w=>
   intro O;obtain⟨P,z,q⟩:=w af;obtain⟨π,hπ⟩:=this N af;refine⟨π::P,by simp;omega,λk l=> ?_⟩;by_cases e:k=N
   .subst e;exact⟨π,by simp,hπ⟩
   .obtain⟨L,D,G⟩:=q k af;exact⟨L,by simp[D],G⟩
 obtain⟨P,z,q⟩:=key f.au.length (aZ _);exact⟨P,q,z⟩
include hA hB in
theorem Uw.size {L:FSt} (w:Uw T F sb A B L):L.au.length<=A.au.length+B.au.length:=by obtain⟨P,l,z⟩:=Can.cov H hA;obtain⟨Q,q,D⟩:=Can.cov H hB;have:=(w.cov (P++Q) (l.mono λπ h=>cO _ h) (q.mono λπ h=>gG _ h)).le;rw[cE] at this;omega
include hA hB hT hF hn
include hA hB hT hF hn
end
end Go.Proofs.YthphfjcnkinkpaaGreatDoor.cl.pf
namespace Go.Proofs.YthphfjcnkinkpaaGreatDoor.cl.pf
open Go Go.AM
def wI:Nat->List Int->Int->List Node
 |_,[],t=>[⟨t,[]⟩]
 |k,f::π,t=>⟨0,[⟨f,(k+1:Nat)⟩]⟩::wI (k+1) π t
def sV (π:List Int) (t:Int):FSt:=⟨wI 0 π t⟩
def Er:∀(k:Nat) (π:List Int) (t:Int),(wI k π t).length=π.length+1
 |_,[],_=>rfl
 |k,f::π,t=>by simp only[wI,bD,Er (k+1) π t]
def se (π:List Int) (t:Int):(sV π t).au.length=π.length+1:=Er 0 π t
def vN:∀(k:Nat) (π:List Int) (t:Int) (i:Nat),(wI k π t)[i]? =if h:i<π.length then some ⟨0,[⟨π[i],(k+i+1:Nat)⟩]⟩ else if i=π.length then some ⟨t,[]⟩ else none
 |k,[],t,0=>by simp[wI]
 |k,[],t,i+1=>by simp[wI]
 |k,f::π,t,0=>by simp[wI]
 |k,f::π,t,i+1=>by
  simp only[wI,rS,vN (k+1) π t i,bD,Nat.add_lt_add_iff_right,Ea,Nat.add_right_cancel_iff];by_cases h:i<π.length
  .simp only[h,dite_true];congr 4;omega
  .simp only[h,dite_false]
def F2 {π:List Int} {t:Int} {i:Nat} (h:i<π.length):iD (sV π t) i=[(π[i],i+1)]:=by
 unfold iD
 have:(sV π t).au[i]? =some ⟨0,[⟨π[i],(0+i+1:Nat)⟩]⟩:=by show(wI 0 π t)[i]? =_;rw[vN,kB h]
 rw[this];simp[PX]
def vO {π:List Int} {t:Int}:iD (sV π t) π.length=[]:=by
 unfold iD
 have:(sV π t).au[π.length]? =some ⟨t,[]⟩:=by show(wI 0 π t)[π.length]? =_;rw[vN,r5 (rT _),aB rfl]
 rw[this];rfl
def aaZ {π:List Int} {t:Int} {i:Nat} (h:i<π.length):mI (sV π t) i=0:=by
 unfold mI
 have:(sV π t).au[i]? =some ⟨0,[⟨π[i],(0+i+1:Nat)⟩]⟩:=by show(wI 0 π t)[i]? =_;rw[vN,kB h]
 rw[this]
def Dq {π:List Int} {t:Int}:mI (sV π t) π.length=t:=by
 unfold mI
 have:(sV π t).au[π.length]? =some ⟨t,[]⟩:=by show(wI 0 π t)[π.length]? =_;rw[vN,r5 (rT _),aB rfl]
 rw[this]
def Xg:∀(k:Nat) (π:List Int) (t:Int),∀x∈wI k π t,∀a∈x.bJ,0<=a.To
 |_,[],t,x,l,a,q=>by simp[wI] at l;subst l;cases q
 |k,f::π,t,x,l,a,q=>by
  simp only[wI,aS] at l;rcases l with rfl|l
  .simp at q;subst q;show 0<=((k+1:Nat):Int);omega
  .exact Xg (k+1) π t x l a q
def chn_go {T F:Nat} (hT:0<T) {π:List Int} {t:Int} (hπ:∀f∈π,0<=f/\f<(F:Int)) (ht:0<=t/\t<(T:Int)):GO T F (jI (sV π t)) (sV π t).au.length:=by
 rw[se];refine⟨λi q p l=> ?_,λi q=> ?_,λi q p l=> ?_,λi q=> ?_⟩<;>by_cases h:i<π.length
 .have l:p∈iD (sV π t) i:=l;rw[F2 h] at l;simp at l;subst l;show i+1<_;omega
 .have l:p∈iD (sV π t) i:=l;have e:i=π.length:=af;rw[e,vO] at l;cases l
 .show yb (iD _ i);rw[F2 h];exact rY _ _
 .have e:i=π.length:=af;show yb (iD _ i);rw[e,vO];exact yb.nil
 .have l:p∈iD (sV π t) i:=l;rw[F2 h] at l;simp at l;subst l;exact hπ _ (bB h)
 .have l:p∈iD (sV π t) i:=l;have e:i=π.length:=af;rw[e,vO] at l;cases l
 .show 0<=mI _ i/\mI _ i<_;rw[aaZ h];omega
 .have e:i=π.length:=af;show 0<=mI _ i/\mI _ i<_;rw[e,Dq];exact ht
def chn_vis {π:List Int} {t:Int}:∀(j i k:Nat),π.length=i+j->j<k->nh (iD (sV π t)) k i (List.range i)=List.range (π.length+1):=by intro j;induction j with
 |zero=>
  intro i k l q;have e:i=π.length:=af;obtain⟨k,rfl⟩:∃k',k=k'+1:=⟨k-1,af⟩
  rw[nh,az ai,e,vO,kE];rfl
 |succ j w=>
  intro i k l q;obtain⟨k,rfl⟩:∃k',k=k'+1:=⟨k-1,af⟩
  rw[nh,az ai,F2 af,<-kE];exact w (i+1) k af af
def vj {T F:Nat} (hT:0<T) {π:List Int} {t:Int} (hπ:∀f∈π,0<=f/\f<(F:Int)) (ht:0<=t/\t<(T:Int)):Can T F (sV π t):=by refine Dp (by rw[se];omega) (chn_go hT hπ ht) (Xg 0 π t) ?_;rw[se];exact chn_vis π.length 0 _ af af
def JD {π:List Int} {t:Int}:∀(i:Nat),i<=π.length->oW (sV π t) (π.take i)=some i:=by intro i;induction i with
 |zero=>intro _;rfl
 |succ i l=>intro q;rw[cM,aM (by omega:i<π.length)];refine Eg.2 ⟨i,l af,?_⟩;show Ac (iD _ i) _=_;rw[F2 af];simp[Ac]
def at_take {C:Gr} {n k:Nat} {π:List Int} (h:Av C n π=some k) (i:Nat):∃j,Av C n (π.take i)=some j/\Av C j (π.drop i)=some k:=by rw[<-lT i π,vI,dA] at h;obtain⟨j,l,q⟩:=h;refine⟨j,l,q⟩
def MF (C:Gr) (π:List Int) (i:Nat):Nat:=(Av C 0 (π.take i)).getD 0
def N0 {C:Gr} {k:Nat} {π:List Int} (h:Av C 0 π=some k) (i:Nat):Av C 0 (π.take i)=some (MF C π i):=by obtain⟨j,l,_⟩:=at_take h i;unfold MF;rw[l];rfl
def Ip {C:Gr} {k:Nat} {π:List Int} (h:Av C 0 π=some k):MF C π π.length=k:=by unfold MF;rw[fT,h];rfl
def A7 {C:Gr} (z:Det C) {k:Nat} {π:List Int} (h:Av C 0 π=some k) {i:Nat} (D:i<π.length):(π[i],MF C π (i+1))∈C.sc (MF C π i):=by have l:=N0 h (i+1);rw[cM,aM D] at l;obtain⟨j,q,w⟩:=Eg.1 l;rw[N0 h i] at q;cases q;exact(xA (z _)).1 w
section
variable {T F:Nat} {sb:Int->Int->Prop} (hT:TO T sb) {π:List Int} {t:Int} (hπ:∀f∈π,0<=f/\f<(F:Int)) (ht:0<=t/\t<(T:Int))
include hT hπ ht
theorem Oi {C:FSt} (q:Can T F C):Le sb (sV π t) C↔∃k,oW C π=some k/\sb t (mI C k):=by
 have w:0<T:=af;have z:=vj (F:=F) w hπ ht;constructor
 .rintro⟨m,I⟩;have e:=JD (π:=π) (t:=t) π.length (aZ _);rw[fT] at e;refine⟨m π.length,AB z q I e,?_⟩;have:=(I.2 π.length (z.LX (by rw[se];omega))).1;have K:(jI (sV π t)).ty π.length=t:=Dq;rw[K] at this;exact this
 .rintro⟨k,G,O⟩;refine⟨MF (jI C) π,by simp[MF,Av],λi L=> ?_⟩;have D:=z.Ms L;rw[se] at D;by_cases h:i<π.length
  .refine⟨?_,λp l=> ?_⟩
   .show sb (mI (sV π t) i) _;rw[aaZ h];have N:=Cl (λi _=>q.wT i) _ 0 _ .root (N0 G i);have:=q.go.tp _ (q.Ms N);exact hT.top this.1 this.2
   .have l:p∈iD (sV π t) i:=l;rw[F2 h] at l;simp at l;subst l;exact A7 q.LW G h
  .have e:i=π.length:=af;subst e;refine⟨?_,λp l=> ?_⟩
   .show sb (mI (sV π t) _) _;rw[Dq,Ip G];exact O
   .have l:p∈iD (sV π t) π.length:=l;rw[vO] at l;cases l
end
def Zc (π:List Int) (t:Int):wI 0 π t=(wI 0 π t).take π.length++[⟨t,[]⟩]:=by
 have h:(wI 0 π t).drop π.length=[⟨t,[]⟩]:=by apply kO;intro i;rw[wK,vN];cases i with
  |zero=>simp
  |succ i=>rw[r5 af,az af];simp
 rw[<-h,lT]
def RT {p:List Int} (z:p.length<=1000000) (t:Int):f426 p ⟨[⟨t,[]⟩]⟩=some (sV p t):=by
 refine e426 ?_;have key:∀(k i:Nat),p.length=i+k->GB p p (p.length:Int) (i:Int) ⟨[⟨t,[]⟩]⟩ ⟨[]⟩ ((wI 0 p t).take i)=some (sV p t):=by intro k;induction k with
  |zero=>intro i q;have e:i=p.length:=af;subst e;refine OW ?_;rw[cond_neg (by rw[aQ];omega)];refine OX ?_;rw[cond_pos (by rfl),jk];refine OV ?_;rw[cond_neg (by rfl),cC _ (by rw[e7,Er];omega) ai af,<-Zc];refine OX ?_;rw[cond_neg (by rfl)];rfl
  |succ k w=>intro i q;have l:i<p.length:=af;refine OW ?_;rw[cond_pos (by rw[bg];omega),bU l,cC _ (by rw[e7,Er];omega) ai af,bM af];have:=w (i+1) af;rw[cM,vN,kB l] at this;simpa using this
 have:=key p.length 0 af;simpa using this
end Go.Proofs.YthphfjcnkinkpaaGreatDoor.cl.pf
namespace Go.Proofs.YthphfjcnkinkpaaGreatDoor.cl.pf
open Go Go.AM
def sb0 (a b:Int):Prop:=a=0/\b=0
def to0:TO 1 sb0:=⟨λh=>by have:=h.1;omega,λh=>by have:=h.2;omega,λh l=>⟨af,af⟩,λh l=>⟨h.1,l.2⟩,λh l=>by rw[h.1,h.2],λh l=>⟨rfl,af⟩⟩
def Can.up {T T' F:Nat} {f:FSt} (h:Can T F f) (hT:T<=T'):Can T' F f:=
 ⟨h.ne,⟨h.go.bd,h.go.wT,h.go.ft,λn hn=>⟨(h.go.tp n hn).1,by have:=(h.go.tp n hn).2;omega⟩⟩,h.eq⟩
structure Shr (F:Nat) (A B:List Int) (f:FSt):Prop where
 can:Can 1 F f
 at_:∃k,oW f A=some k/\oW f B=some k
 least:∀(C:FSt) (T':Nat) (sb:Int->Int->Prop),TO T' sb->Can T' F C->(∃k,oW C A=some k/\oW C B=some k)->Le sb f C
def Shr.le {F T:Nat} {sb:Int->Int->Prop} (hT:TO T sb) {A B:List Int} {f C:FSt} (h:Shr F A B f) (l:1<=T) (q:Can T F C):Le sb f C↔∃k,oW C A=some k/\oW C B=some k:=by
 constructor
 .rintro⟨m,w⟩;obtain⟨k,z,D⟩:=h.at_;exact⟨_,AB (h.can.up l) q w z,AB (h.can.up l) q w D⟩
 .exact h.least C T _ hT q
def le_zero {T F:Nat} {sb:Int->Int->Prop} (hT:TO T sb) {f C:FSt} (hf:Can 1 F f) (w:Can T F C) (h:Le sb0 f (AX C (List.replicate C.au.length 0))):Le sb f C:=by
 obtain⟨m,q⟩:=h;have z:(List.replicate C.au.length (0:Int)).length=C.au.length:=ai;have I:Can 1 F _:=w.AX z λi l=>by simp_all
 refine⟨m,q.1,λi l=>⟨?_,λp G=> ?_⟩⟩
 .have K:=hf.go.tp i (hf.Ms l);have e:(jI f).ty i=0:=af;rw[e];have D:=I.Ms (q.LX l);rw[xw z] at D;have:=w.go.tp _ D;exact hT.top this.1 this.2
 .have:=(q.2 i l).2 p G;grind[jI,BZ]
def aaU {T F:Nat} {C:FSt} (l:Can T F C):Can 1 F (AX C (List.replicate C.au.length 0)):=l.AX ai λi q=>by simp_all
end Go.Proofs.YthphfjcnkinkpaaGreatDoor.cl.pf
namespace Go.Proofs.YthphfjcnkinkpaaGreatDoor.cl.pf
open Go Go.AM
def MC (l:List cz) (n:Int):Prop:=(∀a∈l,0<=a.bw/\0<=a.To/\a.To<n)/\(l.map (·.bw)).Nodup
def c454 {l:List cz} {n:Int} (hl:l.length<=1000000):∃e,f454 l n=some e/\(e=0↔MC l n):=by
 have key:∀(k i:Nat),l.length=i+k->((∀a∈l.take i,0<=a.bw/\0<=a.To/\a.To<n)/\((l.take i).map (·.bw)).Nodup)->∃e,Lw l n (i:Int)=some e/\(e=0↔MC l n):=by intro k;induction k with
  |zero=>intro i hi N;have e:i=l.length:=af;subst e;rw[fT] at N;refine⟨0,Ke ?_,⟨λ_=>N,λ_=>rfl⟩⟩;simp
  |succ k ih=>
   intro i hi N;have q:i<l.length:=af;have S:=bB q;by_cases h1:l[i].bw<0
   .refine⟨2,Ke ?_,⟨λe=>by omega,λh=>by have:=h.1 _ S;omega⟩⟩;rw[cond_pos (by rw[bg];omega),bU q,cond_pos (by rw[bg];exact h1)]
   by_cases h2:l[i].To<0
   .refine⟨2,Ke ?_,⟨λe=>by omega,λh=>by have:=h.1 _ S;omega⟩⟩;rw[cond_pos (by rw[bg];omega),bU q,cond_neg (by rw[aQ];exact h1),bU q,cond_pos (by rw[bg];exact h2)]
   by_cases h3:l[i].To>=n
   .refine⟨2,Ke ?_,⟨λe=>by omega,λh=>by have:=h.1 _ S;omega⟩⟩;rw[cond_pos (by rw[bg];omega),bU q,cond_neg (by simp_all),bU q,cond_neg (by simp_all),bU q,cond_pos (by simp_all)]
   have step:∀r,Lx l n (i:Int) 0=some r->Lw l n (i:Int)=some r:=λr hr=>by refine Ke ?_;rw[cond_pos (by grind),bU q,cond_neg (by simp_all),bU q,cond_neg (by simp_all),bU q,cond_neg (by simp_all)];omega
   have D:∀(d w:Nat),i=w+d->(∀j,(O:j<l.length)->j<w->l[j].bw≠l[i].bw)->∃e,Lx l n (i:Int) (w:Int)=some e/\(e=0↔MC l n):=by intro d;induction d with
    |zero=>
     intro w R U;have e:w=i:=af;subst e
     obtain⟨e,K,G⟩:=ih (w+1) af (by
      rw[cM,aM q];refine⟨λa L=> ?_,?_⟩
      .grind
      .rw[cL,ig];refine⟨N.2,by simp,λx hx y hy=> ?_⟩;simp at hy;subst hy;obtain⟨a,L,rfl⟩:=aG.1 hx;obtain⟨j,O⟩:=iG.1 L
       grind)
     refine⟨e,VH ?_,G⟩;rw[cond_neg ai,bM af];omega
    |succ d V=>
     intro w R U;have z:w<l.length:=af;by_cases e:l[w].bw=l[i].bw
     .refine⟨4,VH ?_,⟨λe=>by omega,λh=> ?_⟩⟩
      .rw[cond_pos (by grind),bU z,bU q,cond_pos (by simp_all)]
      .have:=h.2;unfold List.Nodup at this;rw[jd] at this;grind[List.pairwise_iff_getElem]
     .obtain⟨r,K,G⟩:=V (w+1) af (λj O I=>by
       grind)
      refine⟨r,VH ?_,G⟩;rw[cond_pos (by grind),bU z,bU q,cond_neg (by simp_all),bM af];omega
   obtain⟨e,K,G⟩:=D i 0 af (λj O I=>absurd I af);simp_all
 obtain⟨e,K,G⟩:=key l.length 0 af ⟨λa L=>by(cases L),ai⟩;exact⟨e,e454 K,G⟩
def yd (f:FSt):Prop:=0<f.au.length/\f.au.length<=4096/\∀x∈f.au,0<=x.cR/\MC x.bJ f.au.length
def c435 {f:FSt} (L:∀x∈f.au,x.bJ.length<=1000000):∃e,f435 f=some e/\(e=0↔yd f):=by
 by_cases R:f.au.length=0
 .refine⟨1,e435 ?_,⟨λe=>by omega,λh=>by have:=h.1;omega⟩⟩;simp_all
 by_cases S:f.au.length>4096
 .refine⟨7,e435 ?_,⟨λe=>by omega,λh=>by have:=h.2.1;omega⟩⟩;grind
 have key:∀(k i),f.au.length=i+k->(∀x∈f.au.take i,0<=x.cR/\MC x.bJ f.au.length)->∃e,QA (i) f=some e/\(e=0↔yd f):=by intro k;induction k with
  |zero=>intro i K D;have e:i=f.au.length:=af;subst e;rw[fT] at D;refine⟨0,OZ ?_,⟨λ_=>⟨af,by omega,D⟩,λ_=>rfl⟩⟩;simp
  |succ k N=>
   intro i K D;have l:i<f.au.length:=af;have z:=bB l;by_cases ht:f.au[i].cR<0
   .refine⟨2,OZ ?_,⟨λe=>by omega,λh=>by have:=(h.2.2 _ z).1;omega⟩⟩;rw[cond_pos (by grind),bU l,cond_pos (by simp_all)]
   .obtain⟨e,q,w⟩:=c454 (n:=(f.au.length)) (L _ z);by_cases I:e=0
    .obtain⟨r,U,O⟩:=N (i+1) af (λx G=>by
      rw[cM] at G
      grind)
     refine⟨r,OZ ?_,O⟩;rw[cond_pos (by grind),bU l,cond_neg (by simp_all),bU l,q,aj,cond_neg (by simp_all),bM af];omega
    .refine⟨e,OZ ?_,⟨λh=>absurd h I,λh=>absurd (w.2 (h.2.2 _ z).2) I⟩⟩;rw[cond_pos (by grind),bU l,cond_neg (by simp_all),bU l,q,aj,cond_pos (by simp_all)]
 obtain⟨e,q,w⟩:=key f.au.length 0 af (λx G=>by cases G);refine⟨e,e435 ?_,w⟩;grind
theorem yd.N2 {f:FSt} (h:yd f) (w:∀x∈f.au,x.bJ.length<=1000000):NR f:=λx l=>⟨w x l,λa q=>by have:=(h.2.2 x l).2.1 a q;omega⟩
def c421 {f:FSt} (q:∀x∈f.au,x.bJ.length<=1000000):(yd f/\f421 f=some (kI (Ab f) f.au.length 0,0))\/(¬yd f/\∃e,e≠0/\f421 f=some (⟨[]⟩,e)):=by
 obtain⟨e,z,D⟩:=c435 q;by_cases G:e=0
 .have l:=D.1 G;refine .inl ⟨l,e421 ?_⟩;have w:(0:Int)=((0:Nat)):=rfl;rw[z,aj,cond_neg (by grind),w,c436 (l.N2 q) (by have:=l.2.1;omega) l.1,aj]
 simp_all[e421,cond_pos]
def YW (l:List (List cz)):Nat->List Int->Nat->Prop
 |x,[],y=>x=y
 |x,f::π,y=>∃z:Nat,(⟨f,(z:Int)⟩:cz)∈l.getD x []/\YW l z π y
def YW.snoc {q:List (List cz)} {f:Int} {z:Nat}:∀{π:List Int} {x y:Nat},YW q x π y->(⟨f,(z:Int)⟩:cz)∈q.getD y []->YW q x (π++[f]) z
 |[],x,y,h,l=>by cases h;exact⟨z,l,rfl⟩
 |g::π,x,y,⟨w,D,h⟩,l=>⟨w,D,YW.snoc h l⟩
def YW.mono {q z:List (List cz)} (h:∀x,∀a∈q.getD x [],a∈z.getD x []):∀{π:List Int} {x y:Nat},YW q x π y->YW z x π y
 |[],_,_,l=>l
 |_::π,x,y,⟨w,D,l⟩=>⟨w,h x _ D,YW.mono h l⟩
def yT (A:List Int):List (List cz):=(List.range (A.length+1)).map λj=>match A[j]? with
 |some f=>[⟨f,(j+1:Nat)⟩]
 |none=>[]
def Cn {A:List Int} {j:Nat} (h:j<A.length):(yT A).getD j []=[⟨A[j],(j+1:Nat)⟩]:=by grind[yT]
def Eo {A:List Int} {j:Nat} (h:A.length<=j):(yT A).getD j []=[]:=by unfold yT;grind
def Oh {A:List Int}:∀i,i<=A.length->YW (yT A) 0 (A.take i) i
 |0,_=>rfl
 |i+1,h=>by rw[cM,aM af];exact(Oh i af).snoc (by rw[Cn af];simp)
section
variable {F:Nat} {A B:List Int} (hA:∀f∈A,0<=f/\f<(F:Int)) (hB:∀f∈B,0<=f/\f<(F:Int)) (hAl:A.length<=1000) (hBl:B.length<=1000) (hF:F<=1000) (hB0:B≠[]) (hnp:¬B<+:A)
structure SI (F:Nat) (A B:List Int) (n i:Nat) (ys:List (List cz)):Prop where
 len:A.length+1<=ys.length
 le:ys.length<=A.length+1+i
 aw:∀x,x<ys.length->AW F ys.length (ys.getD x [])
 pa:YW ys 0 A A.length
 pb:YW ys 0 (B.take i) n
 nlt:n<ys.length
 dG:∀(C:FSt) (T' k:Nat),Can T' F C->oW C A=some k->oW C B=some k->∃m:Nat->Nat,m 0=0/\m A.length=k/\m n=MF (jI C) B i/\∀x,x<ys.length->∀a∈ys.getD x [],(a.bw,m a.To.toNat)∈iD C (m x)
 ph:ys.getD n []=[]\/(n=i/\i<=A.length/\B.take i=A.take i/\ys=yT A)
theorem add_get {l:List (List cz)} {n x:Nat} {a:cz} (hn:n<l.length):(l.set n (l.getD n []++[a])).getD x []=if n=x then l.getD n []++[a] else l.getD x []:=by grind
theorem AW.snoc {F n:Nat} {l:List cz} (h:AW F n l) {a:cz} (G:(0<=a.bw/\a.bw<(F:Int))/\0<=a.To/\a.To<(n:Int)) (w:fa l a.bw=none):AW F n (l++[a]):=by
 refine⟨?_,λb q=> ?_⟩
 .rw[cL,ig];refine⟨h.nd,by simp,λx D y z=> ?_⟩;simp at z;subst z;obtain⟨b,q,rfl⟩:=aG.1 D;exact Ez w b q
 .rcases bu.1 q with q|q
  .exact h.ok b q
  simp_all
theorem AW.more {F n w:Nat} {l:List cz} (h:AW F n l) (hn:n<=w):AW F w l:=⟨h.nd,λb q=>⟨(h.ok b q).1,(h.ok b q).2.1,by have:=(h.ok b q).2.2;omega⟩⟩
include hA in
theorem SI.init:SI F A B 0 0 (yT A):=by
 have z:(yT A).length=A.length+1:=by simp[yT]
 refine⟨af,by omega,λx q=> ?_,?_,rfl,by omega,λC G k D w I=>⟨MF (jI C) A,rfl,Ip w,rfl,λx q a l=> ?_⟩, .inr ⟨rfl,by omega,rfl,rfl⟩⟩
 .rw[z] at q⊢;by_cases h:x<A.length
  .rw[Cn h];exact⟨ai,λa l=>by simp at l;subst l;exact⟨hA _ (bB h),by show 0<=((x+1:Nat):Int);omega,by show((x+1:Nat):Int)<((A.length+1:Nat):Int);omega⟩⟩
  .rw[Eo af];exact⟨ai,λa l=>by cases l⟩
 .have:=Oh (A:=A) A.length (aZ _);rwa[fT] at this
 .rw[z] at q;by_cases h:x<A.length
  .rw[Cn h] at l;simp at l;subst l;exact A7 D.LW w h
  .rw[Eo af] at l;cases l
include hB in
theorem SI.go {n i:Nat} {K:List (List cz)} (I:SI F A B n i K) (L:i<B.length) {a:cz} (U:fa (K.getD n []) B[i]=some a):0<=a.To/\SI F A B a.To.toNat (i+1) K:=by
 obtain⟨q,z⟩:=zL U;rcases I.ph with h|⟨rfl,V,G,rfl⟩
 .rw[h] at q;cases q
 .have w:n<A.length:=by
   by_cases h:n<A.length
   .exact h
   .rw[Eo af] at q;cases q
  rw[Cn w] at q;simp at q;subst q;have z:A[n]=B[n]:=z;have hl:(yT A).length=A.length+1:=by simp[yT]
  have l:B.take (n+1)=A.take (n+1):=by rw[cM,cM,G,aM L,aM w,z]
  refine⟨by show 0<=((n+1:Nat):Int);omega,?_⟩;show SI F A B ((n+1:Nat):Int).toNat (n+1) (yT A);rw[aT];refine⟨I.len,by have:=I.le;omega,I.aw,I.pa,?_,by omega,λC R k D k1 N=> ?_, .inr ⟨rfl,by omega,l,rfl⟩⟩
  .rw[l];exact Oh (n+1) af
  .obtain⟨m,m0,m1,m2,O⟩:=I.dG C R k D k1 N;refine⟨m,m0,m1,?_,O⟩;have e1:=O n I.nlt ⟨A[n],(n+1:Nat)⟩ (by rw[Cn w];simp);have S:=A7 D.LW N L;simp only at e1;rw[m2,z,aT] at e1;exact(D.wT _).LW e1 S
include hB in
theorem SI.new {n i:Nat} {l:List (List cz)} (I:SI F A B n i l) (O:i<B.length) (N:fa (l.getD n []) B[i]=none):SI F A B l.length (i+1) (l.set n (l.getD n []++[(⟨B[i],(l.length:Nat)⟩:cz)])++[[]]):=by
 have V:(l.set n (l.getD n []++[(⟨B[i],(l.length:Nat)⟩:cz)])++[[]]).length=l.length+1:=ai;have L:∀x,x<l.length->(l.set n (l.getD n []++[(⟨B[i],(l.length:Nat)⟩:cz)])++[[]]).getD x []=if n=x then l.getD n []++[(⟨B[i],(l.length:Nat)⟩:cz)] else l.getD x []:=λx K=>by rw[zM (by simpa using K),add_get I.nlt]
 have G:(l.set n (l.getD n []++[(⟨B[i],(l.length:Nat)⟩:cz)])++[[]]).getD l.length []=[]:=by rw[Dx ai];simp
 have z:∀x,∀b∈l.getD x [],b∈(l.set n (l.getD n []++[(⟨B[i],(l.length:Nat)⟩:cz)])++[[]]).getD x []:=λx b D=>by
  by_cases K:x<l.length
  .rw[L x K];by_cases e:n=x
   .subst e;rw[aB rfl];exact cO _ D
   .rw[az e];exact D
  .rw[bA,gH af] at D;cases D
 have R:=I.nlt;have hIl:=I.len;have U:=I.le;refine⟨af,by omega,λx K=> ?_,I.pa.mono z,?_,by omega,λC T' k S k1 k2=> ?_, .inl G⟩
 .rw[V] at K⊢;by_cases w:x<l.length
  .rw[L x w];by_cases e:n=x
   .subst e;rw[aB rfl];exact((I.aw n w).more af).snoc ⟨hB _ (bB O),by show 0<=((l.length:Nat):Int);omega,by show((l.length:Nat):Int)<((l.length+1:Nat):Int);omega⟩ N
   .rw[az e];exact(I.aw x w).more af
  .have e:x=l.length:=af;subst e;rw[G];exact⟨ai,λa N=>by cases N⟩
 .rw[cM,aM O];exact(I.pb.mono z).snoc (by rw[L n R,aB rfl];simp)
 .obtain⟨m,m0,m1,m2,m3⟩:=I.dG C T' k S k1 k2;refine⟨λx=>if x=l.length then MF (jI C) B (i+1) else m x,?_,?_,by simp,λx K a q=> ?_⟩
  .show(if 0=l.length then _ else _)=0;rw[az af];exact m0
  .show(if A.length=l.length then _ else _)=k;rw[az af];exact m1
  .rw[V] at K;by_cases w:x<l.length
   .rw[L x w] at q;have old:∀b∈l.getD x [],(b.bw,if b.To.toNat=l.length then MF (jI C) B (i+1) else m b.To.toNat)∈iD C (if x=l.length then MF (jI C) B (i+1) else m x):=λb D=>by
     have:=((I.aw x w).ok b D).2;rw[az af,az af];exact m3 x w b D
    by_cases e:n=x
    .subst e;rw[aB rfl] at q;rcases bu.1 q with q|q
     .exact old a q
     .simp at q;subst q;show(B[i],if((l.length:Nat):Int).toNat=l.length then _ else _)∈iD C (if n=l.length then _ else _);rw[aT,aB rfl,az af,m2];exact A7 S.LW k2 O
    .rw[az e] at q;exact old a q
   .have e:x=l.length:=af;subst e;rw[G] at q;cases q
include hA hB hB0 hnp hAl hBl hF in
include hA hB hB0 hnp hAl hBl hF in
end
