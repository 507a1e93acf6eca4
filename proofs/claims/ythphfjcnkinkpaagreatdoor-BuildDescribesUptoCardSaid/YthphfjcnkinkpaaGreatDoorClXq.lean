/- Equal, Check, Valid and Canonical (the references'). -/
import Derived.Test.YthphfjcnkinkpaaGreatDoorClXo
set_option linter.all false
open List (replicate)
namespace Go.Proofs.YthphfjcnkinkpaaGreatDoor.cl.pf
open Go Go.AM
def nmA (l:List cz):List Int:=l.flatMap λa=>[a.bw,a.To]
def nmN (x:Node):List Int:=[x.cR,(x.bJ.length:Int)]++nmA x.bJ
def nmF (f:FSt):List Int:=(f.au.length:Int)::f.au.flatMap nmN
theorem Yc (l:List cz):(nmA l).length=2 *l.length:=by induction l with
 |nil=>rfl
 |cons a l q=>simp[nmA,rX,cE,bD,fG] at q⊢;omega
def Yb:∀{l m:List cz} {x y:List Int},l.length=m.length->nmA l++x=nmA m++y->l=m/\x=y
 |[],[],x,y,_,h=>⟨rfl,by assumption⟩
 |a::l,b::m,x,y,q,h=>by simp[nmA,rX,gC,cV] at h;obtain⟨D,G,z⟩:=h;obtain⟨e1,w⟩:=Yb (by simp_all) z;exact⟨by cases a;simp_all,w⟩
 |[],b::m,_,_,q,_=>by simp at q
 |a::l,[],_,_,q,_=>by simp at q
def nmN_inj {a b:Node} {x y:List Int} (h:nmN a++x=nmN b++y):a=b/\x=y:=by simp[nmN,gC,cV] at h;obtain⟨w,z,q⟩:=h;obtain⟨e1,l⟩:=Yb af q;exact⟨by cases a;simp_all,l⟩
def Yd:∀{l m:List Node} {x y:List Int},l.length=m.length->l.flatMap nmN++x=m.flatMap nmN++y->l=m/\x=y
 |[],[],x,y,_,h=>⟨rfl,by assumption⟩
 |a::l,b::m,x,y,q,h=>by rw[rX,rX,ef,ef] at h;obtain⟨e1,w⟩:=nmN_inj h;obtain⟨z,D⟩:=Yd (by simp_all) w;simp_all
 |[],b::m,_,_,q,_=>by simp at q
 |a::l,[],_,_,q,_=>by simp at q
def nmF_inj {a b:FSt} {x y:List Int} (h:nmF a++x=nmF b++y):a=b:=by simp[nmF,gC,cV] at h;obtain⟨q,l⟩:=h;have:=(Yd af l).1;cases a;simp_all
structure Sm (f:FSt):Prop where
 n:f.au.length<=5000
 a:∀x∈f.au,x.bJ.length<=1000
def h432_8 {f:FSt} {i:Nat} {res:List Int} {l:List cz} (D:l.length<=1000):∀(xs:List cz) (k:Nat) (o:List Int),l.drop k=xs->o.length+2 *xs.length<=100000000->
  Lq (IntKind.wrap .i64 ((i:Int)+1)) f (o++nmA xs)=some res->Qy (i:Int) l (k:Int) f o=some res:=by
 intro xs;induction xs with
 |nil=>intro k o q _ w;refine acH ?_;rw[aW q];simpa[nmA] using w
 |cons x xs z=>intro k o q G w;refine acH ?_;rw[aP q,ak,aJ q,aJ q,cC _ af ai af,aN q af];refine z _ _ (aH q) (by grind) ?_;simpa[nmA] using w
def h432_3 {f:FSt} (hf:Sm f):∀(xs:List Node) (i:Nat) (o:List Int),f.au.drop i=xs->o.length+2002 *xs.length<=100000000->Lq (i:Int) f o=some (o++xs.flatMap nmN):=by intro xs;induction xs with
 |nil=>intro i o l _;refine acG ?_;grind
 |cons x xs w=>intro i o l z;have q:=hf.a x (aR (bV l));have hn:=hf.n;refine acG ?_;rw[aP l,ak,aJ l,aJ l,cC _ af ai af];refine h432_8 q _ 0 _ rfl (by grind) ?_;rw[aN l af,w _ _ (aH l) (by grind[Yc])];simp[nmN]
def c432 {f:FSt} (hf:Sm f):f432 f=some (nmF f):=by refine e432 ?_;exact h432_3 hf _ 0 _ rfl (by have:=hf.n;grind)
def Ye:∀{l:List Node},(∀x∈l,x.bJ.length<=1000)->(l.flatMap nmN).length<=2002 *l.length
 |[],_=>by simp
 |x::l,h=>by
  have w:=Ye (l:=l) λy q=>h y (by simp[q])
  grind[nmN,Yc]
def nmF_len {f:FSt} (hf:Sm f):(nmF f).length<=1000000000:=by have:=Ye hf.a;have:=hf.n;grind[nmF]
def h418 {l m:List Int} (N:l.length<=1000000000):∀(xs z:List Int) (i:Nat),l.drop i=xs->m.drop i=z->∃r,Qv l m (i:Int)=some r/\(r=0↔∃x y,xs++x=z++y):=by intro xs;induction xs with
 |nil=>intro z i q w;refine⟨0,Kb ?_,⟨λ_=>⟨z,[],ai⟩,λ_=>rfl⟩⟩;rw[aW q,aA]
 |cons a xs G=>intro z i q w;cases z with
  |nil=>refine⟨0,Kb ?_,⟨λ_=>⟨[],a::xs,ai⟩,λ_=>rfl⟩⟩;rw[aP q,ak,aW w,aA]
  |cons b z=>
   by_cases K:a<b
   .refine⟨-1,Kb ?_,⟨λe=>by omega,λ⟨x,y,e⟩=>by simp_all⟩⟩;rw[aP q,ak,aP w,ak,aJ q,aJ w,cond_pos (by simp_all)]
   by_cases L:a>b
   .refine⟨1,Kb ?_,⟨λe=>by omega,λ⟨x,y,e⟩=>by simp_all⟩⟩;rw[aP q,ak,aP w,ak,aJ q,aJ w,cond_neg (by simp_all),aJ q,aJ w,cond_pos (by simp_all)]
   have e:a=b:=af;obtain⟨r,I,D⟩:=G _ _ (aH q) (aH w);refine⟨r,Kb ?_,D.trans ?_⟩
   .rw[aP q,ak,aP w,ak,aJ q,aJ w,cond_neg (by simp_all),aJ q,aJ w,cond_neg (by simp_all),aN q af];omega
   simp_all
def c407 {a b:FSt} (q:Sm a) (z:Sm b):∃r,f407 a b=some r/\(r=true↔a=b):=by obtain⟨r,w,l⟩:=h418 (m:=nmF b) (nmF_len q) _ _ 0 rfl rfl;have D:f418 a b=some r:=e418 (by simp_all[c432]);refine⟨r==0,e407 (by simp_all),?_⟩;rw[ja,l];exact⟨λ⟨x,y,e⟩=>nmF_inj e,λe=>⟨[],[],by rw[e]⟩⟩
def Yq {f:FSt} (h:∀x∈f.au,HR x.bJ):Ab f=jI f:=by
 unfold Ab jI;congr 1;funext n;by_cases hn:n<f.au.length
 .rw[wD hn,sN _,srt_id (h _ (bB _))];rfl
 simp_all[PW,A2]
def InB (T F:Nat) (x:Node):Prop:=x.cR<(T:Int)/\∀a∈x.bJ,a.bw<(F:Int)
def srG_go {T F:Nat} {f:FSt} (hg:yd f) (hs:∀x∈f.au,x.bJ.length<=1000) (w:∀x∈f.au,InB T F x):GO T F (Ab f) f.au.length:=by
 refine⟨K6 (hg.N2 λx z=>by grind),λn hn=> ?_,λn hn p q=> ?_,λn hn=> ?_⟩
 .show yb (A2 f n);rw[wD _];have:=P3 (hg.2.2 _ (bB hn)).2.2;unfold yb;rw[jd];exact this
 .have q:p∈A2 f n:=q;rw[wD hn] at q;obtain⟨a,l,rfl⟩:=aG.1 q;have l:=(qM _).2.2 a|>.1 l
  exact⟨((hg.2.2 _ (bB _)).2.1 a l).1,(w _ (bB _)).2 a l⟩
 .show 0<=mI f n/\_;have e:(Ab f).ty n=f.au[n].cR:=oa _;rw[e,oa hn];exact⟨(hg.2.2 _ (bB _)).1,(w _ (bB _)).1⟩
theorem Can.mG {T F:Nat} {f:FSt} (h:Can T F f):∀x∈f.au,InB T F x:=λx l=>⟨(h.Um l).2,λa q=>((h.ao l).ok a q).1.2⟩
def Can.good {T F:Nat} {f:FSt} (h:Can T F f) (hn:f.au.length<=4096):yd f:=
 ⟨h.ne,hn,λx l=>⟨(h.Um l).1,λa q=>⟨((h.ao l).ok a q).1.1,((h.ao l).ok a q).2⟩,(h.ao l).wT.nd⟩⟩
def Can.sr {T F:Nat} {f:FSt} (h:Can T F f):kI (Ab f) f.au.length 0=f:=by rw[Yq λx l=>(h.ao l).wT];exact h.eq.symm
def can_sr {T F:Nat} {f:FSt} (hg:yd f) (hs:∀x∈f.au,x.bJ.length<=1000) (l:∀x∈f.au,InB T F x):f=kI (Ab f) f.au.length 0↔Can T F f:=
 ⟨λe=>by
  have:=U6 (srG_go hg hs l) hg.1
  grind,λh=>h.sr.symm⟩
def sm_can {f:FSt} (hg:yd f) (hs:∀x∈f.au,x.bJ.length<=1000):Sm (kI (Ab f) f.au.length 0):=by have hB:=K6 (hg.N2 λx q=>by grind);have l:=sw hB hg.1;have z:=s5 l.nd l.lt;refine⟨by rw[FZ];have:=hg.2.1;omega,λx q=> ?_⟩;obtain⟨n,hn,rfl⟩:=aG.1 q;have w:=l.lt n hn;simp_all[Ab,wD,qM]
def h410_11 {h:aK} {f g:FSt} {x:Node} {i:Nat} {P:Prop} (N:x.bJ.length<=1000) (I:∃e,Lm (IntKind.wrap .i64 ((i:Int)+1)) h f g=some e/\(e=0↔P)):∀(xs:List cz) (k:Nat),x.bJ.drop k=xs->
  ∃e,IY (i:Int) (k:Int) h f g x=some e/\(e=0↔(∀a∈xs,a.bw<(h.bC.length:Int))/\P):=by
 intro xs;induction xs with
 |nil=>intro k l;obtain⟨e,D,w⟩:=I;refine⟨e,OQ ?_,w.trans ⟨λq=>⟨λa G=>by(cases G),q⟩,λq=>q.2⟩⟩;rw[aW l,aA];omega
 |cons a xs K=>
  intro k l;by_cases L:a.bw>=(h.bC.length)
  .refine⟨2,OQ ?_,⟨λe=>by omega,λq=>by grind⟩⟩;rw[aP l,ak,aJ l,cond_pos (by simp_all)]
  .obtain⟨e,D,w⟩:=K _ (aH l);refine⟨e,OQ ?_,w.trans ⟨λq=>⟨λb z=> ?_,q.2⟩,λq=>⟨λb z=>q.1 b (by simp[z]),q.2⟩⟩⟩
   .rw[aP l,ak,aJ l,cond_neg (by simp_all),aN l af];omega
   grind
def h410_5 {h:aK} {f g:FSt} (hf:Sm f) (hg:Sm g):∀(xs:List Node) (i:Nat),f.au.drop i=xs->
  ∃e,Lm (i:Int) h f g=some e/\(e=0↔(∀x∈xs,InB h.Types.length h.bC.length x)/\f=g):=by
 intro xs;induction xs with
 |nil=>intro i l;obtain⟨r,D,w⟩:=c407 hf hg;cases r with
  |true=>refine⟨0,OR ?_,⟨λ_=>⟨λx G=>by(cases G),w.1 rfl⟩,λ_=>rfl⟩⟩;rw[aW l,D];rfl
  |false=>refine⟨3,OR ?_,⟨λe=>by omega,λq=>absurd (w.2 q.2) ai⟩⟩;rw[aW l,D];rfl
 |cons x xs I=>
  intro i l;have G:=hf.a x (aR (bV l));have hn:=hf.n;by_cases K:x.cR>=(h.Types.length)
  .refine⟨2,OR ?_,⟨λe=>by omega,λq=>by have:=(q.1 x ai).1;omega⟩⟩;rw[aP l,ak,aJ l,cond_pos (by simp_all)]
  .obtain⟨e,D,w⟩:=h410_11 G (by rw[aN l af];exact I _ (aH l)) _ 0 rfl;refine⟨e,OR ?_,w.trans ⟨λq=>⟨λy z=> ?_,q.2.2⟩,λq=>⟨(q.1 x ai).2,λy z=>q.1 y (by simp[z]),q.2⟩⟩⟩
   .rw[aP l,ak,aJ l,cond_neg (by simp_all)];omega
   .rcases aS.1 z with rfl|z
    .exact⟨af,q.1⟩
    simp_all
def c410 {h:aK} {f:FSt} (hs:∀x∈f.au,x.bJ.length<=1000):∃e,f410 h f=some e/\(e=0↔Can h.Types.length h.bC.length f/\f.au.length<=4096):=by
 rcases c421 (f:=f) (λx D=>by grind) with⟨hg,l⟩|⟨hg,e,w,l⟩
 .have hn:=hg.2.1;obtain⟨e,G,z⟩:=h410_5 ⟨af,hs⟩ (sm_can hg hs) _ 0 rfl;refine⟨e,e410 ?_,z.trans ⟨λq=>⟨(can_sr hg hs q.1).1 q.2,hn⟩,λq=>⟨q.1.mG,q.1.sr.symm⟩⟩⟩;simp_all
 .refine⟨e,e410 ?_,⟨λq=>absurd q w,λq=>absurd (q.1.good q.2) hg⟩⟩;grind
structure Lt12 (f:FSt):Prop where
 n:f.au.length<=12
 a:∀x∈f.au,x.bJ.length<=12
def c413 (f:FSt):∃r,f413 f=some r/\(r=true->Lt12 f):=by
 by_cases G:f.au.length>12
 .refine⟨false,e413 ?_,λe=>by cases e⟩;grind
 have key:∀(xs) (i),f.au.drop i=xs->∃r,Qr (i) f=some r/\(r=true->∀x∈xs,x.bJ.length<=12):=by intro xs;induction xs with
  |nil=>intro i l;refine⟨true,VE ?_,λ_ x z=>by cases z⟩;rw[aW l,aA]
  |cons x xs D=>
   intro i l;by_cases I:x.bJ.length>12
   .refine⟨false,VE ?_,λe=>by cases e⟩;rw[aP l,ak,aJ l,cond_pos (by grind)]
   .obtain⟨r,w,q⟩:=D _ (aH l);refine⟨r,VE ?_,λe y K=> ?_⟩
    .rw[aP l,ak,aJ l,cond_neg (by grind),aN l af];omega
    grind
 obtain⟨r,w,q⟩:=key _ 0 rfl;refine⟨r,e413 ?_,λe=>⟨af,q e⟩⟩;grind
structure Val (T F:Nat) (f:FSt):Prop where
 lt:Lt12 f
 can:Can T F f
def c408 (h:aK) (f:FSt):∃r,f408 h f=some r/\(r=true->Val h.Types.length h.bC.length f):=by obtain⟨r,D,q⟩:=c413 f;cases r with
 |false=>simp_all[e408]
 |true=>
  have l:=q rfl;obtain⟨e,I,z⟩:=c410 λx w=>by have:=l.a x w;omega
  refine⟨e==0,e408 (by simp_all),λG=>⟨l,(z.1 (by simp_all)).1⟩⟩
end Go.Proofs.YthphfjcnkinkpaaGreatDoor.cl.pf
namespace Go.Proofs.YthphfjcnkinkpaaGreatDoor.cl.pf
open Go Go.AM
structure HX (h:aK) (T F:Nat) (sb:Int->Int->Prop) (bQ:Int->Int) (val:Int->Int->Int):Prop where
 hv:HV h T F sb bQ val
 tl:h.Types.length=T
 ss:∀a b:Int,0<=a->a<(T:Int)->0<=b->b<(T:Int)->∃r,f339 h a b=some r/\f340 h a b=some r/\(r=true↔sb a b)
def c466 {x:Node} {f:Int} (w:x.bJ.length<=1000000):f466 x f=some (match fa x.bJ f with|some a=>a.To|none=> -1):=by
 have key:∀(xs) (i),x.bJ.drop i=xs->QK f x.bJ (x.bJ.length) (i) x=some (match fa xs f with|some a=>a.To|none=> -1):=by intro xs;induction xs with
  |nil=>intro i l;refine acZ ?_;rw[aW l];rfl
  |cons a xs q=>intro i l;refine acZ ?_;rw[aP l,aJ l,aN l af,q _ (aH l)];unfold fa;grind
 exact e466 (key _ 0 rfl)
structure MI (sb:Int->Int->Prop) (A B:FSt) (D:Nat->Prop) (m:List Int):Prop where
 len:m.length=A.au.length
 rg:∀j,j<A.au.length->m.getD j 0<(B.au.length:Int)
 rt:m.getD 0 0=0
 dn:∀j,D j->0<=m.getD j 0/\sb (mI A j) (mI B (m.getD j 0).toNat)/\∀p∈iD A j,(p.1,(m.getD p.2 0).toNat)∈iD B (m.getD j 0).toNat/\0<=m.getD p.2 0
 hom:∀μ,yW sb (jI A) 0 (jI B) 0 μ->∀j,j<A.au.length->0<=m.getD j 0->m.getD j 0=(μ j:Nat)
def MI.qN {sb:Int->Int->Prop} {A B:FSt} {i:Nat->Prop} {m:List Int} (M:MI sb A B i m) {t u:Nat} (O:t<A.au.length) (P:u<B.au.length) (w:m.getD t 0<0\/m.getD t 0=(u:Int)) (N:∀D,yW sb (jI A) 0 (jI B) 0 D->D t=u):
  MI sb A B i (m.set t (u:Int))/\(∀j,0<=m.getD j 0->(m.set t (u:Int)).getD j 0=m.getD j 0)/\(m.set t (u:Int)).getD t 0=u:=by
 have G:t<m.length:=by rw[M.len];exact O
 have keep:∀j,0<=m.getD j 0->(m.set t (u:Int)).getD j 0=m.getD j 0:=λj q=>by
  rw[eF];by_cases e:t=j/\j<m.length
  .rw[aB e];rcases w with w|w
   .rw[e.1] at w;omega
   .rw[<-e.1,w]
  .rw[az e]
 refine⟨⟨by rw[gV];exact M.len,λj q=> ?_,?_,λj q=> ?_,λD z j q l=> ?_⟩,keep,by rw[eF,aB ⟨rfl,G⟩]⟩
 .rw[eF];split
  .omega
  .exact M.rg j q
 .rw[keep 0 (by rw[M.rt];omega)];exact M.rt
 .obtain⟨l,L,I⟩:=M.dn j q;rw[keep j l];refine⟨l,L,λp K=> ?_⟩;rw[keep p.2 (I p K).2];exact I p K
 .rw[eF] at l⊢;split
  .rename_i e;rw[<-e.1,N D z]
  .rename_i e;rw[az e] at l;exact M.hom D z j q l
def L1 (sb:Int->Int->Prop) (A B:FSt) (res:Option (List Int×Bool)):Prop:=∃l r,res=some (l,r)/\(r=true↔Le sb A B)
section
variable {h:aK} {T F:Nat} {sb:Int->Int->Prop} {bQ:Int->Int} {val:Int->Int->Int} (H:HX h T F sb bQ val) {A B:FSt} (hA:Can T F A) (hB:Can T F B) (hAn:A.au.length<=100000) (hF:F<=1000)
include H hA hB hAn hF
theorem h423_16 {i:Nat} {x:Node} (hx:A.au[i]? =some x) {b:Nat} (hb:b<B.au.length)
  (hr:∀m',MI sb A B (· <i+1) m'->L1 sb A B (Ft true A.au (A.au.length:Int) ((i+1:Nat):Int) h A B m')):
  ∀(xs:List cz) (k:Nat) (m:List Int),x.bJ.drop k=xs->MI sb A B (· <i) m->m.getD i 0=(b:Int)->sb (mI A i) (mI B b)->
   (∀a∈x.bJ.take k,(a.bw,(m.getD a.To.toNat 0).toNat)∈iD B b/\0<=m.getD a.To.toNat 0)->
   L1 sb A B (vr true (b:Int) A.au (A.au.length:Int) (i:Int) x.bJ (x.bJ.length:Int) (k:Int) h A B x m):=by
 have hxm:=aR hx;have hin:i<A.au.length:=(bR.1 hx).1;have O:iD A i=PX x:=by unfold iD;rw[hx]
 have hxl:=(hA.ao hxm).len;have hbm:=bB hb;have Xx:=(hB.ao hbm).len;have P:iD B b=PX B.au[b]:=sN hb;intro xs;induction xs with
 |nil=>
  intro k m G M V EI R
  have hM:MI sb A B (· <i+1) m:=⟨M.len,M.rg,M.rt,λj (hj:j<i+1)=>by
   by_cases e:j=i
   .subst e;rw[V];refine⟨af,by rw[aT];exact EI,λp hp=> ?_⟩;rw[O] at hp;obtain⟨a,ha,rfl⟩:=aG.1 hp;rw[aT];have hk:x.bJ.take k=x.bJ:=gK (kJ G);exact R a (by rw[hk];exact ha)
   .exact M.dn j (show j<i by omega),M.hom⟩
  obtain⟨l,r,g1,g2⟩:=hr m hM;refine⟨l,r,OU ?_,g2⟩;rw[aW G,aA,bM af];exact g1
 |cons a xs ih=>
  intro k m G M V EI R;have ham:a∈x.bJ:=aR (bV G);have hao:=(hA.ao hxm).ok a ham;obtain⟨t,ht⟩:=dM hao.2.1;have U:t<A.au.length:=by have:=hao.2.2;omega
  have htt:a.To.toNat=t:=af;have S:t<m.length:=by rw[M.len];exact U
  have hsc:(a.bw,t)∈iD A i:=by rw[O];exact aG.2 ⟨a,ham,by rw[htt]⟩
  have N:∀D,yW sb (jI A) 0 (jI B) 0 D->(a.bw,D t)∈iD B b:=λD w=>by have h1:=(w.2 i (hA.LX hin)).2 _ hsc;have h2:=M.hom D w i hin (by rw[V];omega);rw[V] at h2;have h3:D i=b:=af;rw[h3] at h1;exact h1
  have hk:=dN G;cases e:fa B.au[b].bJ a.bw with
  |none=>
   refine⟨[],false,OU ?_,⟨λq=>by(cases q),λ⟨D,w⟩=> ?_⟩⟩
   .rw[aP G,ak,aJ G,bU hb,c466 af,aj,e];rfl
   .have h1:=N D w;rw[P] at h1;obtain⟨c,hc,hce⟩:=aG.1 h1;exact absurd (zc hce).1 (Ez e c hc)
  |some c=>
   obtain⟨hc,hcf⟩:=zL e;have hco:=(hB.ao hbm).ok c hc;obtain⟨u,hu⟩:=dM hco.2.1;have hun:u<B.au.length:=by have:=hco.2.2;omega
   have Q:(a.bw,u)∈iD B b:=by rw[P];exact aG.2 ⟨c,hc,by rw[hcf];congr 1;omega⟩
   have L:∀D,yW sb (jI A) 0 (jI B) 0 D->D t=u:=λD w=>(hB.wT b).LW (N D w) Q
   have K:(m.getD t 0<0\/m.getD t 0=(u:Int))->L1 sb A B (vr true (b:Int) A.au (A.au.length:Int) (i:Int) x.bJ (x.bJ.length:Int) ((k+1:Nat):Int) h A B x (m.set t (u:Int))):=λhv=>by
    obtain⟨M2,keep,at_⟩:=M.qN U hun hv L;refine ih (k+1) _ (aH G) M2 (by rw[keep i (by rw[V];omega)];exact V) EI λa' z=> ?_
    rw[cM,bV G] at z;rcases bu.1 z with z|z
    .obtain⟨q1,q2⟩:=R a' z;rw[keep _ q2];exact⟨q1,q2⟩
    .simp at z;subst z;rw[htt,at_,aT];exact⟨Q,af⟩
   have pre:∀res:List Int×Bool,(bif decide (m.getD t 0>=0) then(bif m.getD t 0 !=(u:Int) then some (([]:List Int),false) else vr true (b:Int) A.au (A.au.length:Int) (i:Int) x.bJ (x.bJ.length:Int) ((k+1:Nat):Int) h A B x (m.set t (u:Int))) else vr true (b:Int) A.au (A.au.length:Int) (i:Int) x.bJ (x.bJ.length:Int) ((k+1:Nat):Int) h A B x (m.set t (u:Int)))=some res->
     vr true (b:Int) A.au (A.au.length:Int) (i:Int) x.bJ (x.bJ.length:Int) (k:Int) h A B x m=some res:=λres hres=>by
    refine OU ?_;have c6:=c466 (x:=B.au[b]) (f:=a.bw) af;rw[e] at c6;have c6:f466 B.au[b] a.bw=some c.To:=c6;rw[aP G,ak,aJ G,bU hb,c6,aj,hu,cond_neg (by rw[aQ];omega),ht,qE S,qE S,qE S,aN G af,aT];exact hres
   by_cases hg:m.getD t 0>=0
   .by_cases I:m.getD t 0=(u:Int)
    .obtain⟨l,r,g1,g2⟩:=K (.inr I);refine⟨l,r,pre _ ?_,g2⟩;rw[cond_pos (by rw[bg];exact hg),cond_neg (by rw[bne_eq_false_iff_eq];exact I)];exact g1
    .refine⟨[],false,pre _ ?_,⟨λq=>by(cases q),λ⟨D,w⟩=> ?_⟩⟩
     .rw[cond_pos (by rw[bg];exact hg),cond_pos (by rw[lQ];exact I)]
     .exact absurd (by rw[M.hom D w t U hg,L D w]) I
   .obtain⟨l,r,g1,g2⟩:=K (.inl af);refine⟨l,r,pre _ ?_,g2⟩;rw[cond_neg (by rw[aQ];exact hg)];exact g1
theorem h423_10:∀(k i:Nat) (m:List Int),A.au.length=i+k->MI sb A B (· <i) m->L1 sb A B (Ft true A.au (A.au.length:Int) (i:Int) h A B m):=by intro k;induction k with
 |zero=>
  intro i m hi M;refine⟨m,true,OT ?_,⟨λ_=>⟨λj=>(m.getD j 0).toNat,?_,λj P=> ?_⟩,λ_=>rfl⟩⟩
  .rw[cond_neg (by rw[aQ];omega),cond_neg (by rfl)]
  .show(m.getD 0 0).toNat=0;rw[M.rt];rfl
  .obtain⟨N,D,V⟩:=M.dn j (show j<i by have:=hA.Ms P;omega);exact⟨D,λp Q=>(V p Q).1⟩
 |succ k ih=>
  intro i m hi M;have w:i<A.au.length:=af;have G:i<m.length:=by rw[M.len];exact w
  have N:0<=m.getD i 0:=by
   by_cases e:i=0
   .subst e;rw[M.rt];omega
   .obtain⟨j,P,p,Q,R⟩:=hA.pred af w;have:=((M.dn j P).2.2 p Q).2;rw[R] at this;exact this
  obtain⟨b,O⟩:=dM N;have z:b<B.au.length:=by have:=M.rg i w;omega
  have I:=hA.Um (bB w);have K:=hB.Um (bB z);obtain⟨r,s1,_,s3⟩:=H.ss _ _ I.1 I.2 K.1 K.2;have S:mI A i=_:=oa w;have U:mI B b=_:=oa z;cases r with
  |false=>
   refine⟨[],false,OT ?_,⟨λq=>by(cases q),λ⟨μ,L⟩=> ?_⟩⟩
   .rw[cond_pos (by rw[bg];omega),bU w,qE G,O,cond_neg (by rw[aQ];omega),bU z,s1,aj];rfl
   .have D:=(L.2 i (hA.LX w)).1;have V:=M.hom μ L i w N;have h3:μ i=b:=af;rw[h3] at D;have D:sb (mI A i) (mI B b):=D;rw[S,U] at D;have:=s3.2 D;cases this
  |true=>have hs:=s3.1 rfl;rw[<-S,<-U] at hs;obtain⟨l,r,g1,g2⟩:=h423_16 H hA hB hAn hF (aM w) z (λm' M'=>ih (i+1) m' af M') A.au[i].bJ 0 m rfl M O hs (λa ha=>by cases ha);refine⟨l,r,OT ?_,g2⟩;rw[cond_pos (by rw[bg];omega),bU w,qE G,O,cond_neg (by rw[aQ];omega),bU z,s1,aj,cond_neg (by rfl)];exact g1
theorem c423:L1 sb A B (f423 h A B):=by
 have I:=hA.ne;have M:MI sb A B (· <0) ((replicate A.au.length (-1:Int)).set 0 0):=by
  have hg:∀j,((replicate A.au.length (-1:Int)).set 0 0).getD j 0=if j=0 then 0 else if j<A.au.length then-1 else 0:=λj=>by
   rw[eF,bA,nT];by_cases e:j=0
   .subst e;simp[I]
   .rw[az (λq=>e q.1.symm),az e];split<;>simp
  refine⟨ai,λj z=> ?_,by rw[hg];rfl,λj z=>absurd z (Nat.not_lt_zero j),λP G j z w=> ?_⟩
  .rw[hg];have:=hB.ne;split
   .omega
   .omega
  .rw[hg] at w⊢;by_cases e:j=0
   .subst e;rw[aB rfl,G.1];rfl
   .rw[az e,aB z] at w;omega
 obtain⟨l,r,K,L⟩:=h423_10 H hA hB hAn hF A.au.length 0 _ af M;have key:∀(k i:Nat),A.au.length=i+k->Qx (A.au.length:Int) (i:Int) h A B (replicate i (-1)++replicate k 0)=some (l,r):=by intro k;induction k with
  |zero=>
   intro i N;refine acD ?_;have e:i=A.au.length:=af;subst e;have D:Int.toNat 0<(replicate A.au.length (-1:Int)).length:=by rw[kD];exact I
   rw[cond_neg (by rw[aQ];omega),nS,dF,bT ⟨af,D⟩,oL D];exact K
  |succ k O=>
   intro i N;refine acD ?_;have D:i<(replicate i (-1:Int)++replicate (k+1) 0).length:=ai;rw[cond_pos (by rw[bg];omega),qE D,aT,bM af];have e:(replicate i (-1:Int)++replicate (k+1) 0).set i (-1)=replicate (i+1) (-1)++replicate k 0:=by rw[lJ _ _ ai,kD,kC,mb,lU,qa];simp
   rw[e];exact O (i+1) af
 refine⟨l,r,e423 ?_,L⟩;rw[bT ⟨af,by omega,by omega,af⟩,aT,kD];have:=key A.au.length 0 af;rw[nS,dQ] at this;exact this
theorem c412:∃r,f412 h A B=some r/\(r=true↔Le sb A B):=by obtain⟨l,r,q,w⟩:=c423 H hA hB hAn hF;simp_all[e412]
end
def c469 (x:Int):f469 x=some false:=e469 ai
def N6 (x:Int):f464 x x=some 0:=e464 (by simp_all[c469])
def Xa:f478 [0,0]=some 0:=by refine e478 (VJ ?_);rw[cond_pos (by rfl),BD af rfl,cond_neg (by rfl)];refine VJ ?_;rw[cond_pos (by rfl),BD (by decide) (by rfl),cond_neg (by rfl)];refine VJ ?_;rfl
def c482_eq (a:cz):f482 a a=some 0:=e482 (by simp_all[N6,Xa])
def c479_eq {l:List cz} (D:l.length<=1000000):f479 l l=some 0:=by
 have key:∀(xs) (i),l.drop i=xs->QN l l l (l.length) (i)=some 0:=by intro xs;induction xs with
  |nil=>simp_all[ac2,cond_neg]
  |cons a xs w=>intro i q;have z:=dN q;refine ac2 ?_;rw[aP q,ak,aJ q,cond_neg (by simp_all),aJ q,c482_eq,aj,cond_neg (by rfl),aN q af];exact w _ (aH q)
 exact e479 (key l 0 rfl)
def c473_eq {x:Node} (l:x.bJ.length<=1000000):f473 x x=some 0:=
 e473 (by simp_all[N6,Xa,c479_eq])
def c446_eq {f:FSt} (hn:f.au.length<=1000000) (hs:∀x∈f.au,x.bJ.length<=1000000):f446 f f=some true:=by
 have key:∀(xs) (i),f.au.drop i=xs->QJ f.au f.au f.au (f.au.length) (i)=some 0:=by intro xs;induction xs with
  |nil=>simp_all[acY,cond_neg]
  |cons a xs q=>intro i l;have z:=dN l;refine acY ?_;rw[aP l,ak,aJ l,cond_neg (by simp_all),aJ l,c473_eq (hs a (aR (bV l))),aj,cond_neg (by rfl),aN l af];exact q _ (aH l)
 have w :=e465 (key _ 0 rfl);simp_all[e458,N6,e446]
def c456 {n:Nat} {x:Node} (L:0<=x.cR) (q:MC x.bJ n) (K:x.bJ.length<=1000000):f456 x (n:Int)=some 0:=by
 have key:∀(xs:List cz) (i:Nat) (o:List (Int×Bool)),x.bJ.drop i=xs->(∀a∈xs,getM o a.bw=none)->LA (n:Int) x.bJ (x.bJ.length:Int) (i:Int) x o=some 0:=by intro xs;induction xs with
  |nil=>intro i o l _;refine acW ?_;rw[aW l,aA]
  |cons a xs G=>
   intro i o l z;have I:=q.1 a (aR (bV l));have D:((a::xs).map (·.bw)).Nodup:=by rw[<-l];exact List.Nodup.sublist ((List.drop_sublist i _).map _) q.2
   refine acW ?_;rw[aP l,ak,aJ l,cond_neg (by rw[aQ];omega),cond_neg (by rw[aQ];omega),cond_neg (by rw[aQ];omega),zP (z a ai),Cw,aN l af];refine G (i+1) _ (aH l) λb w=> ?_
   have:a.bw≠b.bw:=λe=>(gy.1 D).1 (aG.2 ⟨b,w,e.symm⟩)
   rw[Hi af];exact z b (by simp[w])
 refine e456 ?_;rw[cond_neg (by rw[aQ];omega)];exact key x.bJ 0 [] rfl λa _=>rfl
def c489 (l:List cz):f489 l=some l:=e489 rfl
def RJ:∀{l:List cz},(l.map (·.bw)).Nodup->Bg (l.map λa=>(a.bw,a.To))=true
 |[],_=>rfl
 |x::l,h=>by
  have q:=gy.1 h;simp only[bS,Bg,aV,cI,aG,forall_exists_index,and_imp];refine⟨λp a w e=> ?_,RJ q.2⟩;subst e
  have:x.bw≠a.bw:=λe=>q.1 (aG.2 ⟨a,w,e.symm⟩)
  simp[V7];omega
def M9 (x:cz):∀l:List cz,sn V7 (x.bw,x.To) (l.map λa=>(a.bw,a.To))=(sS x l).map λa=>(a.bw,a.To)
 |[]=>rfl
 |y::l=>by
  rw[bS,sn,sS];by_cases h:y.bw<=x.bw
  .rw[aB h,az (by simp[V7];exact h),M9 x l];rfl
  simp_all[az,V7]
def ZE (l:List cz):tR V7 (l.map λa=>(a.bw,a.To))=(AY l).map λa=>(a.bw,a.To):=by
 have key:∀(xs o:List _),(xs.map λa=>(a.bw,a.To)).foldl (λout x=>sn V7 x out) (o.map λa=>(a.bw,a.To))=(xs.foldl (λo x=>sS x o) o).map λa=>(a.bw,a.To):=by intro xs;induction xs with
  |nil=>simp
  |cons x xs q=>simp_all[M9]
 exact key l []
def Jo:∀l:List cz,Bh (l.map cz.enc)=some (l.map λa=>(a.bw,a.To))
 |[]=>rfl
 |x::l=>by show(Bh _).map _=_;rw[Jo l];rfl
def c490 {l:List cz} (h:(l.map (·.bw)).Nodup) (w:l.length<=1000000):f490 l=some (AY l):=by
 refine ym (E:=EN _) ?_;refine tZ ?_
 show(match Bh (l.map cz.enc) with
  |some l=>bif Bg l&&Nat.ble l.length 1073741824 then some (AV.gX [.gX [.self 68, .dG 2 ((tR V7 l).map Sg)]],[]) else none
  |none=>none)=_
 rw[Jo];have q:Nat.ble (l.map λa=>(a.bw,a.To)).length 1073741824=true:=uN (by rw[bz];omega);simp only[RJ h,q,ZE,rM,ak,e8];rfl
def NM (n:Nat) (num:List (Int×Int)) (o:List Nat):Prop:=∀x,x<n->getM num (x:Int)=if x∈o then some (o.idxOf x:Int) else none
def NM.snoc {n:Nat} {num:List (Int×Int)} {o:List Nat} (h:NM n num o) {y:Nat} (l:y∉o):NM n (x6 num (y:Int) (o.length:Int)) (o++[y]):=by
 intro x q;by_cases e:y=x
 .simp_all[Mf,zn]
 .rw[Hi af,h x q];grind
section
variable {f:FSt} (hg:yd f) (hs:∀x∈f.au,x.bJ.length<=1000)
include hg hs
theorem yd.bd:Bd (Ab f).sc f.au.length:=K6 (hg.N2 λx l=>by grind)
theorem yd.AY {x:Node} (q:x∈f.au):(AY x.bJ).length<=1000/\∀a∈AY x.bJ,0<=a.To/\a.To<(f.au.length:Int):=
 ⟨by simp_all[qM],λa l=>((hg.2.2 x q).2.1 a (((qM _).2.2 a).1 l)).2⟩
theorem h488_3 {k:Nat} (ih:∀(x:Nat) (o:List Nat) (num:List (Int×Int)),x<f.au.length->x∉o->NM f.au.length num o->Met f.au.length o->f.au.length<k+o.length->
   ∃q,f488 (x:Int) f (fZ o) num=some ((),fZ (nh (A2 f) k x o),q)/\NM f.au.length q (nh (A2 f) k x o)) {l:List cz} (S:l.length<=1000/\∀a∈l,0<=a.To/\a.To<(f.au.length:Int)):
  ∀(xs:List cz) (i:Nat) (o:List Nat) (num:List (Int×Int)),l.drop i=xs->NM f.au.length num o->Met f.au.length o->f.au.length<k+o.length->
   ∃q,LF (l.length:Int) (i:Int) l f num (fZ o)=some ((),fZ (rJ (A2 f) k (xs.map λa=>(a.bw,a.To.toNat)) o),q)/\NM f.au.length q (rJ (A2 f) k (xs.map λa=>(a.bw,a.To.toNat)) o):=by
 have hll:=S.1;intro xs;induction xs with
 |nil=>intro i o num w D _ _;refine⟨num,VL ?_,D⟩;rw[aW w,aA];rfl
 |cons a xs G=>
  intro i o num w D O R;have ha:=S.2 a (aR (bV w));obtain⟨x,V⟩:=dM ha.1;have z:x<f.au.length:=af;have Q:a.To.toNat=x:=af;simp only[bS,rJ,gx,Q];by_cases K:x∈o
  .have ev:nh (A2 f) k x o=o:=by
    cases k with
    |zero=>rfl
    |succ k=>rw[nh,aB K]
   rw[ev];obtain⟨q,L,N⟩:=G (i+1) o num (aH w) D O R;refine⟨q,VL ?_,N⟩;have hg:=D x z;rw[aB K] at hg;rw[aP w,ak,mh w,me w,V,zQ hg,aN w af];exact L
  .obtain⟨I,f1,N1⟩:=ih x o num z K D O R;have P:=Ap (hg.bd hs) k x o O z;have U:=Ja (sc:=A2 f) k x o;obtain⟨q,L,N⟩:=G (i+1) _ I (aH w) N1 P af;refine⟨q,VL ?_,N⟩;have hg:=D x z;rw[az K] at hg;rw[aP w,ak,mh w,me w,V,zP hg,f1,bG,aN w af];exact L
theorem h488:∀(k x:Nat) (o:List Nat) (num:List (Int×Int)),x<f.au.length->x∉o->NM f.au.length num o->Met f.au.length o->f.au.length<k+o.length->
  ∃l,f488 (x:Int) f (fZ o) num=some ((),fZ (nh (A2 f) k x o),l)/\NM f.au.length l (nh (A2 f) k x o):=by
 have hn:=hg.2.1;intro k;induction k with
 |zero=>intro x o num z _ _ w P;have:=s5 w.nd w.lt;omega
 |succ k R=>
  intro x o num z q N w P;have Q:=s5 w.nd w.lt;have D:=bB z;have O:=hs _ D;obtain⟨l,K,L⟩:=h488_3 hg hs R (hg.AY hs D) (AY f.au[x].bJ) 0 (o++[x]) (x6 num (x:Int) (o.length:Int)) rfl (N.snoc q) (w.snoc z q) (by simp only[cE,dV];omega);have I:nh (A2 f) (k+1) x o=rJ (A2 f) k ((AY f.au[x].bJ).map λa=>(a.bw,a.To.toNat)) (o++[x]):=by rw[nh,az q,wD z]
  rw[I];refine⟨l,e488 ?_,L⟩;rw[Cw,cC _ (by unfold fZ;rw[bz];omega) ai af,bU z,c489,aj,c490 (hg.2.2 _ D).2.2 af,aj];have e:fZ o++[(x:Int)]=fZ (o++[x]):=by simp[fZ]
  have G:((fZ o).length:Int)=(o.length:Int):=by simp[fZ]
  rw[e,G];exact K
theorem h457_12 {o:List Nat} {i y:Nat} (hi:i<=5000) (R:y<f.au.length) (S:∀p∈A2 f y,p.2∈o) {o4:FSt} {num:List (Int×Int)} (hN:NM f.au.length num o) {D:List Node} (V:i<D.length) {v:Int} {o5:List Int} {a b:List Node} {res:FSt}
  (hr:LB v ((i+1:Nat):Int) f o4 num (D.set i ⟨f.au[y].cR,(AY f.au[y].bJ).map λa=>⟨a.bw,(o.idxOf a.To.toNat:Nat)⟩⟩) o5 a b=some res):∀(xs w:List cz) (k:Nat),(AY f.au[y].bJ).drop k=xs->k+xs.length=(AY f.au[y].bJ).length->w=((AY f.au[y].bJ).take k).map (λa=>⟨a.bw,(o.idxOf a.To.toNat:Nat)⟩)->
  FA (i:Int) (y:Int) v (i:Int) ((AY f.au[y].bJ).length:Int) (k:Int) f o4 num D (w++xs) o5 a b=some res:=by
 have hm:=bB R;obtain⟨hal,L⟩:=hg.AY hs hm;intro xs;induction xs with
 |nil=>intro w k z N l;refine XZ ?_;rw[gK (by simpa using(show _<=k from by rw[<-N];simp))] at l;rw[aW z,aA,bU R,Ay V,aT,oL V,bM af,dF,l];exact hr
 |cons c xs ih=>
  intro w k z N l;have hkl:=dN z;have G:=aR (bV z);have hc:=L c G;obtain⟨x,O⟩:=dM hc.1;have P:x<f.au.length:=af;have Q:x∈o:=S (c.bw,x) (by rw[wD R];exact aG.2 ⟨c,G,by rw[O];rfl⟩);have I:=hN x P;rw[aB Q] at I;have K:w.length=k:=by rw[l,bz,e7];omega
  have q:k<(w++c::xs).length:=aI;have U:(w++c::xs)[k]=c:=by rw[List.getElem_append_right af];simp[K]
  refine XZ ?_;rw[aP z,ak,Ay q,aT,oL q,U,O,zQ I,bT ⟨af,q⟩,oL q,U,aN z af];have e1:(w++c::xs).set k ⟨c.bw,(o.idxOf x:Nat)⟩=(w++[⟨c.bw,(o.idxOf x:Nat)⟩])++xs:=by rw[lJ _ _ af,K,kC,lU,ef];rfl
  rw[e1];refine ih _ (k+1) (aH z) (by rw[bD] at N;omega) ?_;rw[cM,bV z,cL,<-l,Option.toList_some,List.map_singleton,O];rfl
theorem c457:f457 f 0=some (kI (Ab f) f.au.length 0):=by
 have hB:=hg.bd hs;have hn:=hg.2.1;obtain⟨z,L,K⟩:=h488 hg hs (f.au.length+1) 0 [] [] hg.1 ai (λx R=>rfl) Met.nil ai;have V:nh (A2 f) (f.au.length+1) 0 []=jo (Ab f) f.au.length 0:=rfl;have G:=sw (G:=Ab f) hB hg.1;have D:=λ{x} R {p} P=>yD (G:=Ab f) hB hg.1 (x:=x) R (p:=p) P
 have hc:kI (Ab f) f.au.length 0=⟨(jo (Ab f) f.au.length 0).map (FP (Ab f) (jo (Ab f) f.au.length 0))⟩:=rfl;rw[V] at L K;rw[hc];revert L K G D;generalize jo (Ab f) f.au.length 0=o;intro L K G D;have hol:=s5 G.nd G.lt;have w:(fZ o).length=o.length:=by simp[fZ]
 have key:∀(k i:Nat),o.length=i+k->∀a b:List Node,LB (o.length:Int) (i:Int) f ⟨[]⟩ z ((o.take i).map (FP (Ab f) o)++replicate k ⟨0,[]⟩) (fZ o) a b=some ⟨o.map (FP (Ab f) o)⟩:=by intro k;induction k with
  |zero=>intro i hi a b;refine acX ?_;rw[cond_neg (by rw[aQ];omega),nS,dF,gK af]
  |succ k ih=>
   intro i hi a b;have q:i<o.length:=af;have l:o[i]<f.au.length:=G.lt _ (bB q);have Q:=bB l;have hal:=hs _ Q;have I:((o.take i).map (FP (Ab f) o)).length=i:=by rw[bz,e7];omega
   refine acX ?_;have O:(fZ o).getD i 0=(o[i]:Int):=by unfold fZ;rw[bA,dK,aM q];rfl
   rw[cond_pos (by rw[bg];omega),qE (by rw[w];exact q),O,bU l,c489,aj,c490 (hg.2.2 _ Q).2.2 af,aj];refine h457_12 hg hs af l (λp P=>D (bB q) P) K (by rw[cE,I,kD];omega) ?_ (AY f.au[o[i]].bJ) [] 0 rfl ai rfl;have N:FP (Ab f) o o[i]=⟨f.au[o[i]].cR,(AY f.au[o[i]].bJ).map λa=>⟨a.bw,(o.idxOf a.To.toNat:Nat)⟩⟩:=by have N:(Ab f).sc o[i]=_:=wD l;have U:(Ab f).ty o[i]=_:=oa l;unfold FP;rw[N,U,e8];rfl
   have e:((o.take i).map (FP (Ab f) o)++replicate (k+1) (⟨0,[]⟩:Node)).set i (FP (Ab f) o o[i])=(o.take (i+1)).map (FP (Ab f) o)++replicate k ⟨0,[]⟩:=by rw[lJ _ _ af,I,kC,mb,lU,cM,aM q,cL,ef,Option.toList_some,List.map_singleton];rfl
   rw[<-N,e];exact ih (i+1) af _ _
 refine e457 ?_;have S:f488 0 f [] []=some ((),fZ o,z):=L;rw[S,bG,bT ⟨af,by omega,by rw[w];omega,by rw[w];omega⟩,w,aT];have:=key o.length 0 af [] [];rw[zo,fI,dQ] at this;exact this
theorem c437g:f437 f=some (kI (Ab f) f.au.length 0,0):=by
 have z:=hg.1;have hn:=hg.2.1;have key:∀(xs) (i),f.au.drop i=xs->QC f.au (f.au.length) (i) f ⟨[]⟩=some (kI (Ab f) f.au.length 0,0):=by intro xs;induction xs with
  |nil=>intro i l;refine acL ?_;rw[aW l,aA,c457 hg hs,aj]
  |cons x xs w=>intro i l;have q:=aR (bV l);refine acL ?_;rw[aP l,ak,aJ l,c456 (hg.2.2 x q).1 (hg.2.2 x q).2 (by grind),aj,cond_neg (by rfl),aN l af];exact w _ (aH l)
 refine e437 ?_;grind
end
def c437 {T F:Nat} {f:FSt} (hf:Can T F f) (hn:f.au.length<=100000) (hF:F<=1000) (l:f.au.length<=4096):f437 f=some (f,0):=by rw[c437g (hf.good l) λx q=>by have:=(hf.ao q).len;omega,hf.sr]
section
variable {T F:Nat} {f:FSt} (hf:Can T F f) (hn:f.au.length<=100000) (hF:F<=1000)
include hf hn hF
theorem c422 {h:aK} (P:h.Types.length=T) (L:h.bC.length=F) (K:f.au.length<=4096):f422 h f=some 0:=by
 have key:∀(xs) (i),f.au.drop i=xs->Qw f.au (f.au.length) (i) h f f=some 0:=by intro xs;induction xs with
  |nil=>intro i q;refine acC ?_;rw[aW q,aA,c446_eq af (λx z=>by have:=(hf.ao z).len;omega),aj,cond_neg (by rfl)]
  |cons x xs O=>
   intro i q;have z:=aR (bV q);have w:=hf.ao z;have N:=w.len;have EI:=hf.Um z;have I:∀(D) (k),x.bJ.drop k=D->IZ f.au (f.au.length) (i) x.bJ (x.bJ.length) (k) h f f x=some 0:=by intro D;induction D with
    |nil=>intro k l;refine XP ?_;rw[aW l,aA,aN q af];exact O _ (aH q)
    |cons a D G=>intro k l;have Q:=(w.ok a (aR (bV l))).1;refine XP ?_;rw[aP l,ak,aJ l,cond_neg (by simp_all),aN l af];exact G _ (aH l)
   refine acC ?_;rw[aP q,aJ q];grind
 refine e422 ?_;rw[c437 hf hn hF K];grind
end
section
variable {h:aK} {T F:Nat} {sb:Int->Int->Prop} {bQ:Int->Int} {val:Int->Int->Int} (H:HX h T F sb bQ val) {f:FSt}
include H
theorem c411 (hf:Can T F f) (hw:WT sb bQ val f) (h4:f.au.length<=4096) (hF:F<=1000):f411 h f=some 0:=by
 have key:∀(xs) (i),f.au.drop i=xs->Qo f.au (f.au.length) (i) h f=some 0:=by intro xs;induction xs with
  |nil=>intro i q;refine acz ?_;rw[aW q,aA]
  |cons x xs ih=>
   intro i q;have hg:=bV q;have Q:=aR hg;have z:=hf.ao Q;have hal:=z.len;have L:=dN q;have P:∀(I) (k),x.bJ.drop k=I->Qq f.au (f.au.length) (i) x.bJ (x.bJ.length) (k) h f x=some 0:=by intro I;induction I with
    |nil=>intro k l;refine acA ?_;rw[aW l,aA,aN q af];exact ih _ (aH q)
    |cons a I O=>
     intro k l;have w:=aR (bV l);have K:=z.ok a w;obtain⟨t,ht⟩:=dM K.2.1;have D:t<f.au.length:=af;have N:(a.bw,t)∈iD f i:=by
      have:iD f i=PX x:=by unfold iD;rw[hg]
      rw[this];exact aG.2 ⟨a,w,by simp_all⟩
     obtain⟨S,U⟩:=hw i L _ N;have V:mI f i=x.cR:=by unfold mI;rw[hg]
     have et:mI f t=f.au[t].cR:=oa _;simp[V,et] at S U;have EI:=hf.Um Q;have G:=hf.Um (bB D);obtain⟨v1,_,v3,v4⟩:=H.hv.vl _ _ EI.1 EI.2 K.1.1 K.1.2 S;obtain⟨r,R,_,s3⟩:=H.ss _ _ v3 v4 G.1 G.2;rw[s3.2 U] at R;refine acA ?_;rw[aP l,ak,aJ l,v1,aj,cond_neg (by rfl),ht,bU D,R,aj,cond_neg (by rfl),aN l af];exact O _ (aH l)
   refine acz ?_;rw[aJ q];grind
 refine e411 ?_;rw[c422 hf af hF H.tl H.hv.fl h4];grind
theorem c417 (R:Lt12 f):∃e,f417 h f=some e/\(e=0->Can T F f/\WT sb bQ val f):=by
 obtain⟨e0,g1,V⟩:=c410 (h:=h) (f:=f) λx K=>by have:=R.a x K;omega
 rw[H.tl,H.hv.fl] at V;by_cases G:e0=0
 .have hf:=(V.1 G).1;have hn:=R.n;have key:∀(xs:List Node) (i:Nat),f.au.drop i=xs->∃e,Qt (i:Int) h f=some e/\(e=0->∀n,i<=n->n<f.au.length->HY sb bQ val f (mI f) n):=by
   intro xs;induction xs with
   |nil=>intro i z;have:=kJ z;refine⟨0,acB ?_,λ_ n h1 h2=>absurd h2 af⟩;grind
   |cons x xs ih=>
    intro i z;have hg:=bV z;have K:=aR hg;have Q:=hf.ao K;have hal:=R.a x K;have hil:=dN z;have ei:mI f i=x.cR:=by unfold mI;rw[hg]
    have S:iD f i=PX x:=by unfold iD;rw[hg]
    obtain⟨e,q1,N⟩:=ih (i+1) (aH z);have D:∀(L:List cz) (k:Nat),x.bJ.drop k=L->∃e,Qu (i:Int) x.bJ (k:Int) h f=some e/\(e=0->(∀a∈L,sb (bQ a.bw) x.cR/\sb (val x.cR a.bw) (mI f a.To.toNat))/\∀n,i+1<=n->n<f.au.length->HY sb bQ val f (mI f) n):=by intro L;induction L with
     |nil=>intro k l;refine⟨e,OS ?_,λG=>⟨λa w=>by(cases w),N G⟩⟩;rw[aW l,aA,aN z af];omega
     |cons a L U=>
      intro k l;have P:=aR (bV l);have w:=Q.ok a P;obtain⟨t,ht⟩:=dM w.2.1;have q:t<f.au.length:=af;have EI:=hf.Um K;have I:=hf.Um (bB q);by_cases hs:sb (bQ a.bw) x.cR
      .obtain⟨_,O,v3,v4⟩:=H.hv.vl _ _ EI.1 EI.2 w.1.1 w.1.2 hs;obtain⟨r,_,s2,s3⟩:=H.ss _ _ v3 v4 I.1 I.2;cases r with
       |false=>refine⟨11,OS ?_,λe=>by omega⟩;rw[aP l,ak,gM hg,aJ l,O,aj,cond_neg (by rfl),aJ l,ht,bU q,s2,aj,cond_pos (by rfl)]
       |true=>
        obtain⟨e2,p1,p2⟩:=U _ (aH l);refine⟨e2,OS ?_,λe=>⟨λb hb=> ?_,(p2 e).2⟩⟩
        .rw[aP l,ak,gM hg,aJ l,O,aj,cond_neg (by rfl),aJ l,ht,bU q,s2,aj,cond_neg (by rfl),aN l af];omega
        .rcases aS.1 hb with rfl|hb
         .have:b.To.toNat=t:=af
          rw[this,oa q];simp_all
         simp_all
      .obtain⟨v,_,O⟩:=H.hv.noval _ _ EI.1 EI.2 w.1.1 w.1.2 hs;refine⟨10,OS ?_,λe=>by omega⟩;rw[aP l,ak,gM hg,aJ l,O,aj,cond_pos (by rfl)]
    obtain⟨e,q1,N⟩:=D _ 0 rfl;refine⟨e,acB ?_,λG n h1 h2=> ?_⟩
    .rw[aP z,ak,aJ z];omega
    .by_cases en:n=i
     .subst en;intro p hp;rw[S] at hp;obtain⟨a,w,rfl⟩:=aG.1 hp;simp_all
     grind
  obtain⟨e,q1,N⟩:=key _ 0 rfl;refine⟨e,e417 ?_,λG=>⟨hf,λn hn=>N G n af hn⟩⟩;simp_all
 simp_all[e417,cond_pos]
end
