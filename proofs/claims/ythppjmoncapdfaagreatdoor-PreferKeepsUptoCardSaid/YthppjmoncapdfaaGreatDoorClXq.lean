/- Subsumption; the program's Check of a graph; well-typed feat. -/
import Derived.Test.YthppjmoncapdfaaGreatDoorClXp
set_option linter.all false
open List (replicate)
namespace Go.Proofs.YthppjmoncapdfaaGreatDoor.cl.pf
open Go Go.AM
structure HX (h:bQ) (T F:Nat) (sb:Int->Int->Prop) (bV:Int->Int) (val:Int->Int->Int):Prop where
 hv:HV h T F sb bV val
 tl:h.Types.length=T
 ss:∀a b:Int,0<=a->a<(T:Int)->0<=b->b<(T:Int)->∃r,f339 h a b=some r/\f340 h a b=some r/\(r=true↔sb a b)
def c466 {x:Node} {f:Int} (w:x.bC.length<=1000000):f466 x f=some (match fa x.bC f with|some a=>a.To|none=> -1):=by
 have key:∀(xs) (i),x.bC.drop i=xs->O2 f x.bC (x.bC.length) (i) x=some (match fa xs f with|some a=>a.To|none=> -1):=by intro xs;induction xs with
  |nil=>intro i l;refine abU ?_;rw[bp l];rfl
  |cons a xs q=>intro i l;refine abU ?_;rw[aZ l,aQ l,aY l af,q _ (aG l)];unfold fa;grind
 exact e466 (key _ 0 rfl)
structure MI (sb:Int->Int->Prop) (A B:FSt) (i:Nat) (m:List Int):Prop where
 len:m.length=A.aj.length
 rg:∀j,j<A.aj.length->m.getD j 0<(B.aj.length:Int)
 rt:m.getD 0 0=0
 dn:∀j,j<i->0<=m.getD j 0/\sb (nw A j) (nw B (m.getD j 0).toNat)/\∀p∈iW A j,(p.1,(m.getD p.2 0).toNat)∈iW B (m.getD j 0).toNat/\0<=m.getD p.2 0
 hom:∀μ,CC sb (mI A) 0 (mI B) 0 μ->∀j,j<A.aj.length->0<=m.getD j 0->m.getD j 0=(μ j:Nat)
def MI.rL {sb:Int->Int->Prop} {A B:FSt} {i:Nat} {m:List Int} (M:MI sb A B i m) {t u:Nat} (D:t<A.aj.length) (N:u<B.aj.length) (O:m.getD t 0<0\/m.getD t 0=(u:Int)) (L:∀z,CC sb (mI A) 0 (mI B) 0 z->z t=u):
  MI sb A B i (m.set t (u:Int))/\(∀j,0<=m.getD j 0->(m.set t (u:Int)).getD j 0=m.getD j 0)/\(m.set t (u:Int)).getD t 0=u:=by
 have G:t<m.length:=by rw[M.len];exact D
 have keep:∀j,0<=m.getD j 0->(m.set t (u)).getD j 0=m.getD j 0:=λj l=>by grind
 refine⟨⟨by rw[fK];exact M.len,λj l=> ?_,?_,λj l=> ?_,λz w j l q=> ?_⟩,keep,by simp_all⟩
 .rw[eF];split
  .omega
  .exact M.rg j l
 .rw[keep 0 (by rw[M.rt];omega)];exact M.rt
 .obtain⟨q,I,K⟩:=M.dn j l;grind
 .rw[eF] at q⊢;split
  .simp_all
  .rename_i e;rw[aq e] at q;exact M.hom _ w j l q
def Y4 (sb:Int->Int->Prop) (A B:FSt) (res:Option (List Int×Bool)):Prop:=∃l r,res=some (l,r)/\(r=true↔Le sb A B)
section
variable {h:bQ} {T F:Nat} {sb:Int->Int->Prop} {bV:Int->Int} {val:Int->Int->Int} (H:HX h T F sb bV val) {A B:FSt} (hA:Can T F A) (hB:Can T F B) (hAn:A.aj.length<=100000) (hF:F<=1000)
include H hA hB hAn hF
theorem h423_16 {i:Nat} {x:Node} (hx:A.aj[i]? =some x) {b:Nat} (hb:b<B.aj.length)
  (hr:∀m',MI sb A B (i+1) m'->Y4 sb A B (Ea true A.aj (A.aj.length:Int) ((i+1:Nat):Int) h A B m')):
  ∀(xs:List bX) (k:Nat) (m:List Int),x.bC.drop k=xs->MI sb A B i m->m.getD i 0=(b:Int)->sb (nw A i) (nw B b)->
   (∀a∈x.bC.take k,(a.aS,(m.getD a.To.toNat 0).toNat)∈iW B b/\0<=m.getD a.To.toNat 0)->
   Y4 sb A B (uv true (b:Int) A.aj (A.aj.length:Int) (i:Int) x.bC (x.bC.length:Int) (k:Int) h A B x m):=by
 have hxm:=aH hx;have hin:i<A.aj.length:=(bD.1 hx).1;have N:iW A i=Su x:=by unfold iW;rw[hx]
 have hxl:=(hA.ao hxm).len;have V:=bq hb;have XS:=(hB.ao V).len;have O:iW B b=Su B.aj[b]:=qq hb;intro xs;induction xs with
 |nil=>
  intro k m D M hm hty hpr
  have hM:MI sb A B (i+1) m:=⟨M.len,M.rg,M.rt,λj hj=>by
   by_cases e:j=i
   .subst e;rw[hm];refine⟨af,by assumption,λp hp=> ?_⟩;rw[N] at hp;obtain⟨a,ha,rfl⟩:=aC.1 hp;rw[aP];have hk:x.bC.take k=x.bC:=gx (iF D);exact hpr a (by rw[hk];exact ha)
   .exact M.dn j af,M.hom⟩
  obtain⟨l,r,g1,g2⟩:=hr m hM;refine⟨l,r,MZ ?_,g2⟩;rw[bp D,az,bl af];omega
 |cons a xs ih=>
  intro k m D M hm hty hpr;have S:a∈x.bC:=aH (bB D);have U:=(hA.ao hxm).ok a S;obtain⟨t,ht⟩:=eL U.2.1;have Q:t<A.aj.length:=by have:=U.2.2;omega
  have htt:a.To.toNat=t:=af;have P:t<m.length:=by rw[M.len];exact Q
  have hsc:(a.aS,t)∈iW A i:=by rw[N];exact aC.2 ⟨a,S,by rw[htt]⟩
  have L:∀z,CC sb (mI A) 0 (mI B) 0 z->(a.aS,z t)∈iW B b:=λz w=>by have R:=(w.2 i (hA.Jh hin)).2 _ hsc;have h2:=M.hom z w i hin af;rw[hm] at h2;have h3:z i=b:=af;rw[h3] at R;exact R
  have hk:=c7 D;cases e:fa B.aj[b].bC a.aS with
  |none=>
   refine⟨[],false,MZ ?_,⟨λq=>by(cases q),λ⟨z,w⟩=> ?_⟩⟩
   .rw[aZ D,ai,aQ D,bR hb,c466 af,ak,e];rfl
   .have R:=L z w;rw[O] at R;obtain⟨c,hc,hce⟩:=aC.1 R;exact absurd (Prod.mk.inj hce).1 (Mr e c hc)
  |some c=>
   obtain⟨hc,hcf⟩:=AL e;have hco:=(hB.ao V).ok c hc;obtain⟨u,hu⟩:=eL hco.2.1;have hun:u<B.aj.length:=by have:=hco.2.2;omega
   have hscu:(a.aS,u)∈iW B b:=by rw[O];exact aC.2 ⟨c,hc,by simp_all⟩
   have K:∀z,CC sb (mI A) 0 (mI B) 0 z->z t=u:=λz w=>(hB.x8 b).Kt (L z w) hscu
   have I:(m.getD t 0<0\/m.getD t 0=(u:Int))->Y4 sb A B (uv true (b:Int) A.aj (A.aj.length:Int) (i:Int) x.bC (x.bC.length:Int) ((k+1:Nat):Int) h A B x (m.set t (u:Int))):=λhv=>by
    obtain⟨M2,keep,at_⟩:=M.rL Q hun hv K;refine ih (k+1) _ (aG D) M2 (by rw[keep i (by rw[hm];omega)];exact hm) hty λa' G=> ?_
    rw[cg,bB D] at G;rcases bu.1 G with G|G
    .simp_all
    simp_all
   have pre:∀res:List Int×Bool,(bif decide (m.getD t 0>=0) then(bif m.getD t 0 !=(u:Int) then some (([]:List Int),false) else uv true (b:Int) A.aj (A.aj.length:Int) (i:Int) x.bC (x.bC.length:Int) ((k+1:Nat):Int) h A B x (m.set t (u:Int))) else uv true (b:Int) A.aj (A.aj.length:Int) (i:Int) _ _ _ h A B x _)=some res->
     uv _ _ _ _ _ _ _ _ h A B x m=some _:=λres hres=>by
    refine MZ ?_;have c6:=c466 (x:=B.aj[b]) (f:=a.aS) af;rw[e] at c6;have c6:f466 _ _=some c.To:=c6;rw[aZ D,ai,aQ D,bR hb,c6,ak,hu,cond_neg (by rfl),ht,qF P,qF P,qF P,aY D af,aP];omega
   by_cases hg:m.getD t 0>=0
   .by_cases hne:m.getD t 0=(u)
    .obtain⟨l,r,g1,g2⟩:=I (.inr hne);grind
    .refine⟨[],false,pre _ ?_,⟨λq=>by(cases q),λ⟨z,w⟩=> ?_⟩⟩
     .grind
     .exact absurd (by rw[M.hom _ w t Q hg,K _ w]) hne
   .obtain⟨l,r,g1,g2⟩:=I (.inl af);grind
theorem h423_10:∀(k i:Nat) (m:List Int),A.aj.length=i+k->MI sb A B i m->Y4 sb A B (Ea true A.aj (A.aj.length:Int) (i:Int) h A B m):=by intro k;induction k with
 |zero=>
  intro i m hi M;refine⟨m,_,MY ?_,⟨λ_=>⟨λj=>(m.getD j 0).toNat,?_,λj P=> ?_⟩,λ_=>rfl⟩⟩
  .simp_all
  .show(m.getD 0 0).toNat=0;rw[M.rt];rfl
  .obtain⟨N,D,R⟩:=M.dn j (by have:=hA.RL P;omega);exact⟨D,λp Q=>(R p Q).1⟩
 |succ k ih=>
  intro i m hi M;have w:i<A.aj.length:=af;have G:i<m.length:=by rw[M.len];exact w
  have N:0<=m.getD i 0:=by
   by_cases e:i=0
   .subst e;rw[M.rt];omega
   .obtain⟨j,P,p,Q,hpi⟩:=hA.pred af w;have:=((M.dn j P).2.2 p Q).2;simp_all
  obtain⟨b,O⟩:=eL N;have z:b<B.aj.length:=by have:=M.rg i w;omega
  have I:=hA.Pn (bq w);have K:=hB.Pn (bq z);obtain⟨r,s1,_,s3⟩:=H.ss _ _ I.1 I.2 K.1 K.2;have V :=ou w;have eB :=ou z;cases r with
  |false=>
   refine⟨[],false,MY ?_,⟨λq=>by(cases q),λ⟨μ,L⟩=> ?_⟩⟩
   .rw[cond_pos (by grind),bR w,qF G,O,bR z,s1];rfl
   .have D:=(L.2 i (hA.Jh w)).1;have R:=M.hom _ L i w N;have h3:μ i=b:=af;rw[h3] at D;have D:sb (nw A i) (nw B b):=D;simp_all
  |true=>have S:=s3.1 rfl;rw[<-V,<-eB] at S;obtain⟨l,r,g1,g2⟩:=h423_16 H hA hB hAn hF (aK w) z (λm' U=>ih _ _ af U) _ 0 m rfl M O S (λa ha=>by cases ha);refine⟨l,r,MY ?_,g2⟩;rw[cond_pos (by grind),bR _,qF G,O,cond_neg (by rfl),bR z,s1,ak,cond_neg (by rfl)];omega
theorem c423:Y4 sb A B (f423 h A B):=by
 have L:=hA.ne;have M:MI sb A B 0 ((replicate A.aj.length (-1:Int)).set 0 0):=by
  have D:∀j,((replicate A.aj.length (-1:Int)).set 0 0).getD j 0=if j=0 then 0 else if j<A.aj.length then-1 else 0:=λj=>by grind
  refine⟨ah,λj q=> ?_,by simp_all,λj q=>absurd q af,λP z j q w=> ?_⟩
  .rw[D];have:=hB.ne;omega
  .rw[D] at w⊢;by_cases e:j=0
   .subst e;rw[au rfl,z.1];rfl
   omega
 obtain⟨l,r,K,G⟩:=h423_10 H hA hB hAn hF A.aj.length 0 _ af M;have key:∀(k i:Nat),A.aj.length=i+k->OI (A.aj.length:Int) (i:Int) h A B (replicate i (-1)++replicate k 0)=some (l,r):=by intro k;induction k with
  |zero=>simp_all[abr,Int.toNat,replicate,jY,cond_neg,bh,Dw]
  |succ k O=>
   intro i N;refine abr ?_;have I:i<(replicate i (-1)++replicate (k+1) 0).length:=ah;rw[cond_pos (by grind),qF I,aP,bl af];have e:(replicate i (-1)++replicate (k+1) 0).set i (-1)=replicate (i+1) (-1)++replicate k 0:=by rw[vq,mX];simp
   grind
 refine⟨l,r,e423 ?_,G⟩;grind[bh,Int.toNat_natCast]
theorem c412:∃r,f412 h A B=some r/\(r=true↔Le sb A B):=by obtain⟨l,r,q,w⟩:=c423 H hA hB hAn hF;simp_all[e412]
end
def c469 (x:Int):f469 x=some false:=e469 ah
def L9 (x:Int):f464 x x=some 0:=e464 (by simp_all[c469])
def Vm:f478 [0,0]=some 0:=by refine e478 (B4 ?_);rw[cond_pos (by rfl),zK af rfl,cond_neg (by rfl)];refine B4 ?_;rw[cond_pos (by rfl),zK (by decide) (by rfl),cond_neg (by rfl)];refine B4 ?_;rfl
def c482_eq (a:bX):f482 a a=some 0:=e482 (by simp_all[L9,Vm])
def c479_eq {l:List bX} (D:l.length<=1000000):f479 l l=some 0:=by
 have key:∀(xs) (i),l.drop i=xs->O6 l l l (l.length) (i)=some 0:=by intro xs;induction xs with
  |nil=>simp_all[abY,cond_neg]
  |cons a xs w=>intro i q;have z:=c7 q;refine abY ?_;rw[aZ q,ai,aQ q,cond_neg (by simp_all),aQ q,c482_eq,ak,cond_neg (by rfl),aY q af];exact w _ (aG q)
 exact e479 (key l 0 rfl)
def c473_eq {x:Node} (l:x.bC.length<=1000000):f473 x x=some 0:=
 e473 (by simp_all[L9,Vm,c479_eq])
def c446_eq {f:FSt} (hn:f.aj.length<=1000000) (q:∀x∈f.aj,x.bC.length<=1000000):f446 f f=some true:=by
 have key:∀(xs) (i),f.aj.drop i=xs->O1 f.aj f.aj f.aj (f.aj.length) (i)=some 0:=by intro xs;induction xs with
  |nil=>simp_all[abT,cond_neg]
  |cons a xs w=>intro i l;have D:=c7 l;refine abT ?_;rw[aZ l,ai,aQ l,cond_neg (by simp_all),aQ l,c473_eq (q a (aH (bB l))),ak,cond_neg (by rfl),aY l af];exact w _ (aG l)
 have z :=e465 (key _ 0 rfl);simp_all[e458,L9,e446]
def c456 {F n:Nat} {x:Node} (L:0<=x.cO) (q:AO F n x.bC) (K:x.bC.length<=1000000):f456 x (n:Int)=some 0:=by
 have key:∀(xs) (i) (o),x.bC.drop i=xs->(∀a∈xs,getM o a.aS=none)->J9 (n) x.bC (x.bC.length) (i) x o=some 0:=by intro xs;induction xs with
  |nil=>intro i o l _;refine abR ?_;rw[bp l,az]
  |cons a xs G=>
   intro i o l z;have I:=q.ok a (aH (bB l));have D:yX (a::xs):=by rw[<-l];exact List.Pairwise.sublist (List.drop_sublist i _) q.x8
   refine abR ?_;rw[aZ l,ai,aQ l,cond_neg (by simp_all),cond_neg (by simp_all),cond_neg (by simp_all),B5 (z a ah),sB,aY l af];refine G _ _ (aG l) λb w=> ?_
   have:=(dr.1 D).1 b w;grind[FD]
 refine e456 ?_;rw[cond_neg (by simp_all)];exact key _ 0 _ rfl λa _=>rfl
def c489 (l:List bX):f489 l=some l:=e489 rfl
def KX:∀{l:List bX},yX l->zy (l.map λa=>(a.aS,a.To))=true
 |[],_=>rfl
 |x::l,h=>by have q:=dr.1 h;simp only[aR,zy,aI,cv,aC,forall_exists_index,and_imp];refine⟨λp a w e=> ?_,KX q.2⟩;grind[Wo]
def X2 {l:List bX} (h:yX l):lC Wo (l.map λa=>(a.aS,a.To))=l.map λa=>(a.aS,a.To):=by
 have key:∀(xs o),yX (o++xs)->(xs.map λa=>(a.aS,a.To)).foldl (λout x=>pY Wo x out) (o.map λa=>(a.aS,a.To))=(o++xs).map λa=>(a.aS,a.To):=by intro xs;induction xs with
  |nil=>simp
  |cons x xs D=>
   intro o z;have e:pY Wo (x.aS,x.To) (o.map λa=>(a.aS,a.To))=(o++[x]).map λa=>(a.aS,a.To):=by
    have:=Iy Wo (x:=(x.aS,x.To)) (p:=o.map λa=>(a.aS,a.To)) (q:=[]) (λy q=>by
     obtain⟨a,w,rfl⟩:=aC.1 q;have:=(oB.1 z).2.2 a w x ah
     simp[Wo];omega) (λy q=>by cases q)
    simpa using this
   grind
 exact key l [] (by assumption)
def BJ:∀l:List bX,uG (l.map bX.enc)=some (l.map λa=>(a.aS,a.To))
 |[]=>rfl
 |x::l=>by show(uG _).map _=_;rw[BJ l];rfl
def c490 {l:List bX} (h:yX l) (w:l.length<=1000000):f490 l=some l:=by
 refine iS ?_;refine mK ?_
 show(match uG _ with
  |some l=>bif zy l&&Nat.ble _ _ then some _ else none
  |none=>none)=_
 rw[BJ];have q:Nat.ble (l.map λa=>(a.aS,a.To)).length 1073741824=true:=ig (by grind);simp only[KX h,q,X2 h,eS];rfl
def NM (n:Nat) (num:List (Int×Int)) (o:List Nat):Prop:=∀x,x<n->getM num (x:Int)=if x∈o then some (o.idxOf x:Int) else none
def NM.snoc {n:Nat} {num:List (Int×Int)} {o:List Nat} (h:NM n num o) {y:Nat} (l:y∉o):NM n (wA num (y:Int) (o.length:Int)) (o++[y]):=by
 intro x q;by_cases e:y=x
 .simp_all[KA,qW]
 .rw[FD af,h x q];grind
section
variable {T F:Nat} {f:FSt} (hf:Can T F f) (hn:f.aj.length<=100000) (hF:F<=1000)
include hf hn hF
theorem h488_3 {k:Nat} (ih:∀(x:Nat) (o:List Nat) (num:List (Int×Int)),x<f.aj.length->x∉o->NM f.aj.length num o->Met f.aj.length o->f.aj.length<k+o.length->
   ∃q,f488 (x:Int) f (iA o) num=some ((),iA (nV (iW f) k x o),q)/\NM f.aj.length q (nV (iW f) k x o)) {l:List bX} (R:AO F f.aj.length l):
  ∀(xs:List bX) (i:Nat) (o:List Nat) (num:List (Int×Int)),l.drop i=xs->NM f.aj.length num o->Met f.aj.length o->f.aj.length<k+o.length->
   ∃q,Kc (l.length:Int) (i:Int) l f num (iA o)=some ((),iA (rN (iW f) k (xs.map λa=>(a.aS,a.To.toNat)) o),q)/\NM f.aj.length q (rN (iW f) k (xs.map λa=>(a.aS,a.To.toNat)) o):=by
 have hll:=R.len;intro xs;induction xs with
 |nil=>intro i o num w D _ _;refine⟨_,T7 ?_,D⟩;rw[bp w];rfl
 |cons a xs I=>
  intro i o num w D N Q;have ha:=(R.ok a (aH (bB w))).2;obtain⟨x,U⟩:=eL ha.1;have z:x<f.aj.length:=af;have P:a.To.toNat=x:=af;simp[aR,fB,P];by_cases K:x∈o
  .have ev:nV (iW f) k x o=o:=by
    cases k with
    |zero=>rfl
    |succ k=>rw[nV,au K]
   rw[ev];obtain⟨q,g1,L⟩:=I _ o _ (aG w) D N Q;refine⟨_,T7 ?_,L⟩;have G:=D x z;rw[au K] at G;rw[aZ w,ai,sU w,sR w,U,uU G,aY w af];omega
  .obtain⟨V,f1,N1⟩:=ih x o _ z K D N Q;have O:=yI hf.bd k x o N z;have S:=Hh (sc:=iW f) k x o;obtain⟨q,g1,L⟩:=I _ _ _ (aG w) N1 O af;refine⟨_,T7 ?_,L⟩;have G:=D x z;rw[aq K] at G;rw[aZ w,ai,sU w,sR w,U,B5 G,f1,jK,aY w af];omega
theorem h488:∀(k x:Nat) (o:List Nat) (num:List (Int×Int)),x<f.aj.length->x∉o->NM f.aj.length num o->Met f.aj.length o->f.aj.length<k+o.length->
  ∃l,f488 (x:Int) f (iA o) num=some ((),iA (nV (iW f) k x o),l)/\NM f.aj.length l (nV (iW f) k x o):=by
 intro k;induction k with
 |zero=>intro x o num _ _ _ z N;have:=vI z.nd z.lt;omega
 |succ k P=>
  intro x o num D w K z N;have O:=vI z.nd z.lt;have q:=hf.ao (bq D);have L:=q.len;obtain⟨l,Q,I⟩:=h488_3 hf hn hF P q _ 0 _ _ rfl (K.snoc w) (z.snoc D w) (by grind);have G:nV (iW f) (k+1) x o=rN (iW f) k (f.aj[x].bC.map λa=>(a.aS,a.To.toNat)) (o++[x]):=by rw[nV,aq w,qq _];rfl
  rw[G];refine⟨_,e488 ?_,I⟩;rw[sB,bT _ (by grind[iA]) ah af,bR D,c489,ak,c490 q.x8 af];simp_all[iA]
theorem h457_12 {i:Nat} (S:i<f.aj.length) {L:FSt} {num:List (Int×Int)} (P:NM f.aj.length num (List.range f.aj.length)) {w:List Node} (I:i<w.length) {N:List Int} {a b:List Node} {res:FSt}
  (hr:Ka (f.aj.length:Int) ((i+1:Nat):Int) f L num (w.set i f.aj[i]) N a b=some res):∀(xs:List bX) (k:Nat),f.aj[i].bC.drop k=xs->
  Eg (i:Int) (i:Int) (f.aj.length:Int) (i:Int) (f.aj[i].bC.length:Int) (k:Int) f L num w f.aj[i].bC N a b=some res:=by
 have z:=hf.ao (bq S);have Q:=z.len;intro xs;induction xs with
 |nil=>intro k l;refine Wj ?_;rw[bp l,az,bR _,uK I,aP,Dw I,bl af];omega
 |cons c xs V=>
  intro k l;have R:=(z.ok c (aH (bB l))).2;obtain⟨x,K⟩:=eL R.1;have q:x<f.aj.length:=af;have U:=c7 l;have G:=P x q;rw[au (eH.2 q),Lh q] at G;have D :=by have:=bB l;rw[aK U] at this;exact c9 this
  refine Wj ?_;rw[aZ l,ai,sU l,sR l];have O:tH num c.To=tH num (x) (R:=FSt):=by rw[K]
  rw[O,uU G,sU l,sR l,aY l af,aP,<-K];have e1:f.aj[i].bC.set k ⟨c.aS,c.To⟩=f.aj[i].bC:=by
   have:(⟨c.aS,c.To⟩)=f.aj[i].bC[k]:=by rw[D]
   grind[List.set_getElem_self]
  rw[e1];exact V _ (aG l)
theorem c457:f457 f 0=some f:=by
 obtain⟨w,f1,I⟩:=h488 hf hn hF (f.aj.length+1) 0 _ [] hf.ne ah (λx P=>rfl) Met.nil ah;have N:nV (iW f) _ 0 _=List.range _:=hf.ord;rw[N] at f1 I;have D:(iA (List.range f.aj.length)).length=f.aj.length:=by simp[iA]
 have key:∀(k i),f.aj.length=i+k->∀a b:List _,Ka (f.aj.length) (i) f ⟨[]⟩ w (f.aj.take i++replicate k ⟨0,[]⟩) (iA (List.range f.aj.length)) a b=some f:=by intro k;induction k with
  |zero=>simp_all[abS]
  |succ k Q=>
   intro i O a b;have q:i<f.aj.length:=af;have l:=hf.ao (bq q);have L:=l.len;refine abS ?_;have z:(iA (List.range f.aj.length)).getD i 0=(i):=by unfold iA;rw[lz (by simp_all)];simp
   rw[cond_pos (by grind),qF af,z,bR q,c489,ak,c490 l.x8 af,ak];refine h457_12 hf hn hF _ I (by simp_all) ?_ _ 0 rfl;have e:(f.aj.take i++replicate (k+1) (⟨0,[]⟩:Node)).set i f.aj[i]=f.aj.take (i+1)++replicate k ⟨0,[]⟩:=by
    have G:(f.aj.take i).length=i:=by rw[fF];omega
    rw[mN _ _ af,G,mR,cg,aK _,eO];rfl
   grind
 refine e457 ?_;have K:f488 0 f [] _=some _:=f1;rw[K,jK,bh ⟨af,by omega,by omega,af⟩,D];have:=key f.aj.length 0 af [] [];assumption
theorem c437 (I:f.aj.length<=4096):f437 f=some (f,0):=by
 have G:=hf.ne;have key:∀(xs) (i),f.aj.drop i=xs->OU f.aj (f.aj.length) (i) f ⟨[]⟩=some (f,0):=by intro xs;induction xs with
  |nil=>intro i l;refine abG ?_;rw[bp l,az,c457 hf hn hF,ak]
  |cons x xs D=>intro i l;have w:=aH (bB l);have q:=hf.ao w;have z:=q.len;refine abG ?_;rw[aZ l,ai,aQ l,c456 (hf.Pn w).1 q af,ak,cond_neg (by rfl),aY l af];exact D _ (aG l)
 refine e437 ?_;grind
theorem c422 {h:bQ} (O:h.Types.length=T) (K:h.cD.length=F) (I:f.aj.length<=4096):f422 h f=some 0:=by
 have key:∀(xs) (i),f.aj.drop i=xs->OH f.aj (f.aj.length) (i) h f f=some 0:=by intro xs;induction xs with
  |nil=>intro i q;refine abq ?_;rw[bp q,az,c446_eq af (λx z=>by have:=(hf.ao z).len;omega),ak,cond_neg (by rfl)]
  |cons x xs N=>
   intro i q;have z:=aH (bB q);have w:=hf.ao z;have L:=w.len;have hty:=hf.Pn z;have inner:∀(D) (k),x.bC.drop k=D->G9 f.aj (f.aj.length) (i) x.bC (x.bC.length) (k) h f f x=some 0:=by intro D;induction D with
    |nil=>intro k l;refine V7 ?_;rw[bp l,az,aY q af];exact N _ (aG q)
    |cons a D G=>intro k l;have P:=(w.ok a (aH (bB l))).1;refine V7 ?_;rw[aZ l,ai,aQ l,cond_neg (by simp_all),aY l af];exact G _ (aG l)
   refine abq ?_;rw[aZ q,aQ q];grind
 refine e422 ?_;rw[c437 hf hn hF I];grind
end
section
variable {h:bQ} {T F:Nat} {sb:Int->Int->Prop} {bV:Int->Int} {val:Int->Int->Int} (H:HX h T F sb bV val) {f:FSt}
include H
theorem c411 (hf:Can T F f) (hw:WT sb bV val f) (h4:f.aj.length<=4096) (hF:F<=1000):f411 h f=some 0:=by
 have key:∀(xs) (i),f.aj.drop i=xs->OB f.aj (f.aj.length) (i) h f=some 0:=by intro xs;induction xs with
  |nil=>intro i q;refine abm ?_;rw[bp q,az]
  |cons x xs ih=>
   intro i q;have L:=bB q;have Q:=aH L;have z:=hf.ao Q;have hal:=z.len;have N:=c7 q;have inner:∀(I) (k),x.bC.drop k=I->OC f.aj (f.aj.length) (i) x.bC (x.bC.length) (k) h f x=some 0:=by intro I;induction I with
    |nil=>intro k l;refine abn ?_;rw[bp l,az,aY q af];exact ih _ (aG q)
    |cons a I P=>
     intro k l;have w:=aH (bB l);have K:=z.ok a w;obtain⟨t,ht⟩:=eL K.2.1;have D:t<f.aj.length:=af;have O:(a.aS,t)∈iW f i:=by
      have:iW f i=Su x:=by unfold iW;rw[L]
      rw[this];exact aC.2 ⟨a,w,by simp_all⟩
     obtain⟨R,S⟩:=hw i N _ O;have U:nw f i=x.cO:=by unfold nw;rw[L]
     have V:nw f t=f.aj[t].cO:=ou _;simp[U,V] at R S;have hty:=hf.Pn Q;have G:=hf.Pn (bq D);obtain⟨v1,_,v3,v4⟩:=H.hv.vl _ _ hty.1 hty.2 K.1.1 K.1.2 R;obtain⟨r,s1,_,s3⟩:=H.ss _ _ v3 v4 G.1 G.2;rw[s3.2 S] at s1;refine abn ?_;rw[aZ l,ai,aQ l,v1,ak,cond_neg (by rfl),ht,bR D,s1,ak,cond_neg (by rfl),aY l af];exact P _ (aG l)
   refine abm ?_;rw[aQ q];grind
 refine e411 ?_;rw[c422 hf af hF H.tl H.hv.fl h4];grind
theorem c417 (R:Pu f):∃e,f417 h f=some e/\(e=0->Can T F f/\WT sb bV val f):=by
 obtain⟨e0,g1,V⟩:=c410 (h:=h) (f:=f) λx K=>by have:=R.a x K;omega
 rw[H.tl,H.hv.fl] at V;by_cases D:e0=0
 .have hf:=(V.1 D).1;have hn:=R.n;have key:∀(xs:List Node) (i:Nat),f.aj.drop i=xs->∃e,OE (i:Int) h f=some e/\(e=0->∀n,i<=n->n<f.aj.length->Gi sb bV val f (nw f) n):=by
   intro xs;induction xs with
   |nil=>intro i z;have:=iF z;refine⟨0,abp ?_,λ_ n h1 h2=>absurd h2 af⟩;grind
   |cons x xs ih=>
    intro i z;have G:=bB z;have K:=aH G;have Q:=hf.ao K;have hal:=R.a x K;have hil:=c7 z;have ei:nw f i=x.cO:=by unfold nw;rw[G]
    have S:iW f i=Su x:=by unfold iW;rw[G]
    obtain⟨e,q1,N⟩:=ih (i+1) (aG z);have inner:∀(L:List bX) (k:Nat),x.bC.drop k=L->∃e,OF (i:Int) x.bC (k:Int) h f=some e/\(e=0->(∀a∈L,sb (bV a.aS) x.cO/\sb (val x.cO a.aS) (nw f a.To.toNat))/\∀n,i+1<=n->n<f.aj.length->Gi sb bV val f (nw f) n):=by intro L;induction L with
     |nil=>intro k l;refine⟨e,MX ?_,λD=>⟨λa w=>by(cases w),N D⟩⟩;rw[bp l,az,aY z af];omega
     |cons a L U=>
      intro k l;have P:=aH (bB l);have w:=Q.ok a P;obtain⟨t,ht⟩:=eL w.2.1;have q:t<f.aj.length:=af;have hty:=hf.Pn K;have I:=hf.Pn (bq q);by_cases hs:sb (bV a.aS) x.cO
      .obtain⟨_,O,v3,v4⟩:=H.hv.vl _ _ hty.1 hty.2 w.1.1 w.1.2 hs;obtain⟨r,_,s2,s3⟩:=H.ss _ _ v3 v4 I.1 I.2;cases r with
       |false=>refine⟨11,MX ?_,λe=>by omega⟩;rw[aZ l,ai,ew G,aQ l,O,ak,cond_neg (by rfl),aQ l,ht,bR q,s2,ak,cond_pos (by rfl)]
       |true=>
        obtain⟨e2,p1,p2⟩:=U _ (aG l);refine⟨e2,MX ?_,λe=>⟨λb hb=> ?_,(p2 e).2⟩⟩
        .rw[aZ l,ai,ew G,aQ l,O,ak,cond_neg (by rfl),aQ l,ht,bR q,s2,ak,cond_neg (by rfl),aY l af];omega
        .rcases aF.1 hb with rfl|hb
         .have:b.To.toNat=t:=af
          rw[this,ou q];simp_all
         simp_all
      .obtain⟨v,_,O⟩:=H.hv.noval _ _ hty.1 hty.2 w.1.1 w.1.2 hs;refine⟨10,MX ?_,λe=>by omega⟩;rw[aZ l,ai,ew G,aQ l,O,ak,cond_pos (by rfl)]
    obtain⟨e,q1,N⟩:=inner _ 0 rfl;refine⟨e,abp ?_,λD n h1 h2=> ?_⟩
    .rw[aZ z,ai,aQ z];omega
    .by_cases en:n=i
     .subst en;intro p hp;rw[S] at hp;obtain⟨a,w,rfl⟩:=aC.1 hp;simp_all
     grind
  obtain⟨e,q1,N⟩:=key _ 0 rfl;refine⟨e,e417 ?_,λD=>⟨hf,λn hn=>N D n af hn⟩⟩;simp_all
 simp_all[e417,cond_pos]
end
