/- Subsumption; the program's Check of a graph; well-typed feat. -/
import Derived.Test.YthppjmoncapdfaaGreatDoorClXp
set_option linter.all false
open List (replicate)
namespace Go.Proofs.YthppjmoncapdfaaGreatDoor.cl.pf
open Go Go.AM
structure HX (h:bR) (T F:Nat) (sb:Int->Int->Prop) (bW:Int->Int) (val:Int->Int->Int):Prop where
 hv:HV h T F sb bW val
 tl:h.Types.length=T
 ss:∀a b:Int,0<=a->a<(T:Int)->0<=b->b<(T:Int)->∃r,f339 h a b=some r/\f340 h a b=some r/\(r=true↔sb a b)
def c466 {x:Node} {f:Int} (w:x.bD.length<=1000000):f466 x f=some (match fa x.bD f with|some a=>a.To|none=> -1):=by
 have key:∀(xs) (i),x.bD.drop i=xs->Pc f x.bD (x.bD.length) (i) x=some (match fa xs f with|some a=>a.To|none=> -1):=by intro xs;induction xs with
  |nil=>intro i l;refine aci ?_;rw[bq l];rfl
  |cons a xs q=>intro i l;refine aci ?_;rw[bf l,aQ l,aX l af,q _ (aH l)];unfold fa;grind
 exact e466 (key _ 0 rfl)
structure MI (sb:Int->Int->Prop) (A B:FSt) (i:Nat) (m:List Int):Prop where
 len:m.length=A.aj.length
 rg:∀j,j<A.aj.length->m.getD j 0<(B.aj.length:Int)
 rt:m.getD 0 0=0
 dn:∀j,j<i->0<=m.getD j 0/\sb (ny A j) (ny B (m.getD j 0).toNat)/\∀p∈iY A j,(p.1,(m.getD p.2 0).toNat)∈iY B (m.getD j 0).toNat/\0<=m.getD p.2 0
 hom:∀μ,CH sb (mJ A) 0 (mJ B) 0 μ->∀j,j<A.aj.length->0<=m.getD j 0->m.getD j 0=(μ j:Nat)
def MI.rQ {sb:Int->Int->Prop} {A B:FSt} {i:Nat} {m:List Int} (M:MI sb A B i m) {t u:Nat} (D:t<A.aj.length) (N:u<B.aj.length) (O:m.getD t 0<0\/m.getD t 0=(u:Int)) (L:∀z,CH sb (mJ A) 0 (mJ B) 0 z->z t=u):
  MI sb A B i (m.set t (u:Int))/\(∀j,0<=m.getD j 0->(m.set t (u:Int)).getD j 0=m.getD j 0)/\(m.set t (u:Int)).getD t 0=u:=by
 have G:t<m.length:=by rw[M.len];exact D
 have keep:∀j,0<=m.getD j 0->(m.set t (u)).getD j 0=m.getD j 0:=λj l=>by grind
 refine⟨⟨by rw[fM];exact M.len,λj l=> ?_,?_,λj l=> ?_,λz w j l q=> ?_⟩,keep,by simp_all⟩
 .rw[eG];split
  .omega
  .exact M.rg j l
 .rw[keep 0 (by rw[M.rt];omega)];exact M.rt
 .obtain⟨q,I,K⟩:=M.dn j l;grind
 .rw[eG] at q⊢;split
  .simp_all
  .rename_i e;rw[au e] at q;exact M.hom _ w j l q
def Zk (sb:Int->Int->Prop) (A B:FSt) (res:Option (List Int×Bool)):Prop:=∃l r,res=some (l,r)/\(r=true↔Le sb A B)
section
variable {h:bR} {T F:Nat} {sb:Int->Int->Prop} {bW:Int->Int} {val:Int->Int->Int} (H:HX h T F sb bW val) {A B:FSt} (hA:Can T F A) (hB:Can T F B) (hAn:A.aj.length<=100000) (hF:F<=1000)
include H hA hB hAn hF
theorem h423_16 {i:Nat} {x:Node} (hx:A.aj[i]? =some x) {b:Nat} (hb:b<B.aj.length)
  (hr:∀m',MI sb A B (i+1) m'->Zk sb A B (El true A.aj (A.aj.length:Int) ((i+1:Nat):Int) h A B m')):
  ∀(xs:List bY) (k:Nat) (m:List Int),x.bD.drop k=xs->MI sb A B i m->m.getD i 0=(b:Int)->sb (ny A i) (ny B b)->
   (∀a∈x.bD.take k,(a.aT,(m.getD a.To.toNat 0).toNat)∈iY B b/\0<=m.getD a.To.toNat 0)->
   Zk sb A B (uA true (b:Int) A.aj (A.aj.length:Int) (i:Int) x.bD (x.bD.length:Int) (k:Int) h A B x m):=by
 have hxm:=aI hx;have hin:i<A.aj.length:=(bF.1 hx).1;have N:iY A i=SE x:=by unfold iY;rw[hx]
 have hxl:=(hA.ao hxm).len;have V:=br hb;have X5:=(hB.ao V).len;have O:iY B b=SE B.aj[b]:=qu hb;intro xs;induction xs with
 |nil=>
  intro k m D M hm hty hpr
  have hM:MI sb A B (i+1) m:=⟨M.len,M.rg,M.rt,λj hj=>by
   by_cases e:j=i
   .subst e;rw[hm];refine⟨af,by assumption,λp hp=> ?_⟩;rw[N] at hp;obtain⟨a,ha,rfl⟩:=aD.1 hp;rw[aR];have hk:x.bD.take k=x.bD:=gd (iq D);exact hpr a (by rw[hk];exact ha)
   .exact M.dn j af,M.hom⟩
  obtain⟨l,r,g1,g2⟩:=hr m hM;refine⟨l,r,M9 ?_,g2⟩;rw[bq D,aA,bp af];omega
 |cons a xs ih=>
  intro k m D M hm hty hpr;have S:a∈x.bD:=aI (bA D);have U:=(hA.ao hxm).ok a S;obtain⟨t,ht⟩:=eN U.2.1;have Q:t<A.aj.length:=by have:=U.2.2;omega
  have htt:a.To.toNat=t:=af;have P:t<m.length:=by rw[M.len];exact Q
  have hsc:(a.aT,t)∈iY A i:=by rw[N];exact aD.2 ⟨a,S,by rw[htt]⟩
  have L:∀z,CH sb (mJ A) 0 (mJ B) 0 z->(a.aT,z t)∈iY B b:=λz w=>by have R:=(w.2 i (hA.Jq hin)).2 _ hsc;have h2:=M.hom z w i hin af;rw[hm] at h2;have h3:z i=b:=af;rw[h3] at R;exact R
  have hk:=c9 D;cases e:fa B.aj[b].bD a.aT with
  |none=>
   refine⟨[],false,M9 ?_,⟨λq=>by(cases q),λ⟨z,w⟩=> ?_⟩⟩
   .rw[bf D,ai,aQ D,bS hb,c466 af,ak,e];rfl
   .have R:=L z w;rw[O] at R;obtain⟨c,hc,hce⟩:=aD.1 R;exact absurd (Prod.mk.inj hce).1 (MB e c hc)
  |some c=>
   obtain⟨hc,hcf⟩:=A3 e;have hco:=(hB.ao V).ok c hc;obtain⟨u,hu⟩:=eN hco.2.1;have hun:u<B.aj.length:=by have:=hco.2.2;omega
   have hscu:(a.aT,u)∈iY B b:=by rw[O];exact aD.2 ⟨c,hc,by simp_all⟩
   have K:∀z,CH sb (mJ A) 0 (mJ B) 0 z->z t=u:=λz w=>(hB.yh b).KC (L z w) hscu
   have I:(m.getD t 0<0\/m.getD t 0=(u:Int))->Zk sb A B (uA true (b:Int) A.aj (A.aj.length:Int) (i:Int) x.bD (x.bD.length:Int) ((k+1:Nat):Int) h A B x (m.set t (u:Int))):=λhv=>by
    obtain⟨M2,keep,at_⟩:=M.rQ Q hun hv K;refine ih (k+1) _ (aH D) M2 (by rw[keep i (by rw[hm];omega)];exact hm) hty λa' G=> ?_
    rw[cr,bA D] at G;rcases bw.1 G with G|G
    .simp_all
    simp_all
   have pre:∀res:List Int×Bool,(bif decide (m.getD t 0>=0) then(bif m.getD t 0 !=(u:Int) then some (([]:List Int),false) else uA true (b:Int) A.aj (A.aj.length:Int) (i:Int) x.bD (x.bD.length:Int) ((k+1:Nat):Int) h A B x (m.set t (u:Int))) else uA true (b:Int) A.aj (A.aj.length:Int) (i:Int) _ _ _ h A B x _)=some res->
     uA _ _ _ _ _ _ _ _ h A B x m=some _:=λres hres=>by
    refine M9 ?_;have c6:=c466 (x:=B.aj[b]) (f:=a.aT) af;rw[e] at c6;have c6:f466 _ _=some c.To:=c6;rw[bf D,ai,aQ D,bS hb,c6,ak,hu,cond_neg (by rfl),ht,qH P,qH P,qH P,aX D af,aR];omega
   by_cases hg:m.getD t 0>=0
   .by_cases hne:m.getD t 0=(u)
    .obtain⟨l,r,g1,g2⟩:=I (.inr hne);grind
    .refine⟨[],false,pre _ ?_,⟨λq=>by(cases q),λ⟨z,w⟩=> ?_⟩⟩
     .grind
     .exact absurd (by rw[M.hom _ w t Q hg,K _ w]) hne
   .obtain⟨l,r,g1,g2⟩:=I (.inl af);grind
theorem h423_10:∀(k i:Nat) (m:List Int),A.aj.length=i+k->MI sb A B i m->Zk sb A B (El true A.aj (A.aj.length:Int) (i:Int) h A B m):=by intro k;induction k with
 |zero=>
  intro i m hi M;refine⟨m,_,M8 ?_,⟨λ_=>⟨λj=>(m.getD j 0).toNat,?_,λj P=> ?_⟩,λ_=>rfl⟩⟩
  .simp_all
  .show(m.getD 0 0).toNat=0;rw[M.rt];rfl
  .obtain⟨N,D,R⟩:=M.dn j (by have:=hA.RV P;omega);exact⟨D,λp Q=>(R p Q).1⟩
 |succ k ih=>
  intro i m hi M;have w:i<A.aj.length:=af;have G:i<m.length:=by rw[M.len];exact w
  have N:0<=m.getD i 0:=by
   by_cases e:i=0
   .subst e;rw[M.rt];omega
   .obtain⟨j,P,p,Q,hpi⟩:=hA.pred af w;have:=((M.dn j P).2.2 p Q).2;simp_all
  obtain⟨b,O⟩:=eN N;have z:b<B.aj.length:=by have:=M.rg i w;omega
  have I:=hA.Pw (br w);have K:=hB.Pw (br z);obtain⟨r,s1,_,s3⟩:=H.ss _ _ I.1 I.2 K.1 K.2;have V :=ox w;have eB :=ox z;cases r with
  |false=>
   refine⟨[],false,M8 ?_,⟨λq=>by(cases q),λ⟨μ,L⟩=> ?_⟩⟩
   .rw[cond_pos (by grind),bS w,qH G,O,bS z,s1];rfl
   .have D:=(L.2 i (hA.Jq w)).1;have R:=M.hom _ L i w N;have h3:μ i=b:=af;rw[h3] at D;have D:sb (ny A i) (ny B b):=D;simp_all
  |true=>have S:=s3.1 rfl;rw[<-V,<-eB] at S;obtain⟨l,r,g1,g2⟩:=h423_16 H hA hB hAn hF (aM w) z (λm' U=>ih _ _ af U) _ 0 m rfl M O S (λa ha=>by cases ha);refine⟨l,r,M8 ?_,g2⟩;rw[cond_pos (by grind),bS _,qH G,O,cond_neg (by rfl),bS z,s1,ak,cond_neg (by rfl)];omega
theorem c423:Zk sb A B (f423 h A B):=by
 have L:=hA.ne;have M:MI sb A B 0 ((replicate A.aj.length (-1:Int)).set 0 0):=by
  have D:∀j,((replicate A.aj.length (-1:Int)).set 0 0).getD j 0=if j=0 then 0 else if j<A.aj.length then-1 else 0:=λj=>by grind
  refine⟨ah,λj q=> ?_,by simp_all,λj q=>absurd q af,λP z j q w=> ?_⟩
  .rw[D];have:=hB.ne;omega
  .rw[D] at w⊢;by_cases e:j=0
   .subst e;rw[az rfl,z.1];rfl
   omega
 obtain⟨l,r,K,G⟩:=h423_10 H hA hB hAn hF A.aj.length 0 _ af M;have key:∀(k i:Nat),A.aj.length=i+k->OT (A.aj.length:Int) (i:Int) h A B (replicate i (-1)++replicate k 0)=some (l,r):=by intro k;induction k with
  |zero=>simp_all[abN,Int.toNat,replicate,j5,cond_neg,bh,DH]
  |succ k O=>
   intro i N;refine abN ?_;have I:i<(replicate i (-1)++replicate (k+1) 0).length:=ah;rw[cond_pos (by grind),qH I,aR,bp af];have e:(replicate i (-1)++replicate (k+1) 0).set i (-1)=replicate (i+1) (-1)++replicate k 0:=by rw[vw,mY];simp
   grind
 refine⟨l,r,e423 ?_,G⟩;grind[bh,Int.toNat_natCast]
theorem c412:∃r,f412 h A B=some r/\(r=true↔Le sb A B):=by obtain⟨l,r,q,w⟩:=c423 H hA hB hAn hF;simp_all[e412]
end
def c469 (x:Int):f469 x=some false:=e469 ah
def Mi (x:Int):f464 x x=some 0:=e464 (by simp_all[c469])
def Vx:f478 [0,0]=some 0:=by refine e478 (Ca ?_);rw[cond_pos (by rfl),zX af rfl,cond_neg (by rfl)];refine Ca ?_;rw[cond_pos (by rfl),zX (by decide) (by rfl),cond_neg (by rfl)];refine Ca ?_;rfl
def c482_eq (a:bY):f482 a a=some 0:=e482 (by simp_all[Mi,Vx])
def c479_eq {l:List bY} (D:l.length<=1000000):f479 l l=some 0:=by
 have key:∀(xs) (i),l.drop i=xs->Pg l l l (l.length) (i)=some 0:=by intro xs;induction xs with
  |nil=>simp_all[acn,cond_neg]
  |cons a xs w=>intro i q;have z:=c9 q;refine acn ?_;rw[bf q,ai,aQ q,cond_neg (by simp_all),aQ q,c482_eq,ak,cond_neg (by rfl),aX q af];exact w _ (aH q)
 exact e479 (key l 0 rfl)
def c473_eq {x:Node} (l:x.bD.length<=1000000):f473 x x=some 0:=
 e473 (by simp_all[Mi,Vx,c479_eq])
def c446_eq {f:FSt} (hn:f.aj.length<=1000000) (q:∀x∈f.aj,x.bD.length<=1000000):f446 f f=some true:=by
 have key:∀(xs) (i),f.aj.drop i=xs->Pb f.aj f.aj f.aj (f.aj.length) (i)=some 0:=by intro xs;induction xs with
  |nil=>simp_all[ach,cond_neg]
  |cons a xs w=>intro i l;have D:=c9 l;refine ach ?_;rw[bf l,ai,aQ l,cond_neg (by simp_all),aQ l,c473_eq (q a (aI (bA l))),ak,cond_neg (by rfl),aX l af];exact w _ (aH l)
 have z :=e465 (key _ 0 rfl);simp_all[e458,Mi,e446]
def c456 {F n:Nat} {x:Node} (L:0<=x.cQ) (q:AO F n x.bD) (K:x.bD.length<=1000000):f456 x (n:Int)=some 0:=by
 have key:∀(xs) (i) (o),x.bD.drop i=xs->(∀a∈xs,getM o a.aT=none)->Ki (n) x.bD (x.bD.length) (i) x o=some 0:=by intro xs;induction xs with
  |nil=>intro i o l _;refine acf ?_;rw[bq l,aA]
  |cons a xs G=>
   intro i o l z;have I:=q.ok a (aI (bA l));have D:zg (a::xs):=by rw[<-l];exact List.Pairwise.sublist (List.drop_sublist i _) q.yh
   refine acf ?_;rw[bf l,ai,aQ l,cond_neg (by simp_all),cond_neg (by simp_all),cond_neg (by simp_all),Cb (z a ah),sG,aX l af];refine G _ _ (aH l) λb w=> ?_
   have:=(dA.1 D).1 b w;grind[FP]
 refine e456 ?_;rw[cond_neg (by simp_all)];exact key _ 0 _ rfl λa _=>rfl
def c489 (l:List bY):f489 l=some l:=e489 rfl
def K6:∀{l:List bY},zg l->zM (l.map λa=>(a.aT,a.To))=true
 |[],_=>rfl
 |x::l,h=>by have q:=dA.1 h;simp only[aS,zM,aJ,cz,aD,forall_exists_index,and_imp];refine⟨λp a w e=> ?_,K6 q.2⟩;grind[WA]
def Yf {l:List bY} (h:zg l):lD WA (l.map λa=>(a.aT,a.To))=l.map λa=>(a.aT,a.To):=by
 have key:∀(xs o),zg (o++xs)->(xs.map λa=>(a.aT,a.To)).foldl (λout x=>p7 WA x out) (o.map λa=>(a.aT,a.To))=(o++xs).map λa=>(a.aT,a.To):=by intro xs;induction xs with
  |nil=>simp
  |cons x xs D=>
   intro o z;have e:p7 WA (x.aT,x.To) (o.map λa=>(a.aT,a.To))=(o++[x]).map λa=>(a.aT,a.To):=by
    have:=II WA (x:=(x.aT,x.To)) (p:=o.map λa=>(a.aT,a.To)) (q:=[]) (λy q=>by
     obtain⟨a,w,rfl⟩:=aD.1 q;have:=(oD.1 z).2.2 a w x ah
     simp[WA];omega) (λy q=>by cases q)
    simpa using this
   grind
 exact key l [] (by assumption)
def BU:∀l:List bY,uL (l.map bY.enc)=some (l.map λa=>(a.aT,a.To))
 |[]=>rfl
 |x::l=>by show(uL _).map _=_;rw[BU l];rfl
def c490 {l:List bY} (h:zg l) (w:l.length<=1000000):f490 l=some l:=by
 refine iV ?_;refine mL ?_
 show(match uL _ with
  |some l=>bif zM l&&Nat.ble _ _ then some _ else none
  |none=>none)=_
 rw[BU];have q:Nat.ble (l.map λa=>(a.aT,a.To)).length 1073741824=true:=ij (by grind);simp only[K6 h,q,Yf h,eV];rfl
def NM (n:Nat) (num:List (Int×Int)) (o:List Nat):Prop:=∀x,x<n->getM num (x:Int)=if x∈o then some (o.idxOf x:Int) else none
def NM.snoc {n:Nat} {num:List (Int×Int)} {o:List Nat} (h:NM n num o) {y:Nat} (l:y∉o):NM n (wE num (y:Int) (o.length:Int)) (o++[y]):=by
 intro x q;by_cases e:y=x
 .simp_all[KJ,qY]
 .rw[FP af,h x q];grind
section
variable {T F:Nat} {f:FSt} (hf:Can T F f) (hn:f.aj.length<=100000) (hF:F<=1000)
include hf hn hF
theorem h488_3 {k:Nat} (ih:∀(x:Nat) (o:List Nat) (num:List (Int×Int)),x<f.aj.length->x∉o->NM f.aj.length num o->Met f.aj.length o->f.aj.length<k+o.length->
   ∃q,f488 (x:Int) f (iE o) num=some ((),iE (nX (iY f) k x o),q)/\NM f.aj.length q (nX (iY f) k x o)) {l:List bY} (R:AO F f.aj.length l):
  ∀(xs:List bY) (i:Nat) (o:List Nat) (num:List (Int×Int)),l.drop i=xs->NM f.aj.length num o->Met f.aj.length o->f.aj.length<k+o.length->
   ∃q,Kl (l.length:Int) (i:Int) l f num (iE o)=some ((),iE (rS (iY f) k (xs.map λa=>(a.aT,a.To.toNat)) o),q)/\NM f.aj.length q (rS (iY f) k (xs.map λa=>(a.aT,a.To.toNat)) o):=by
 have hll:=R.len;intro xs;induction xs with
 |nil=>intro i o num w D _ _;refine⟨_,Ui ?_,D⟩;rw[bq w];rfl
 |cons a xs I=>
  intro i o num w D N Q;have ha:=(R.ok a (aI (bA w))).2;obtain⟨x,U⟩:=eN ha.1;have z:x<f.aj.length:=af;have P:a.To.toNat=x:=af;simp[aS,fD,P];by_cases K:x∈o
  .have ev:nX (iY f) k x o=o:=by
    cases k with
    |zero=>rfl
    |succ k=>rw[nX,az K]
   rw[ev];obtain⟨q,g1,L⟩:=I _ o _ (aH w) D N Q;refine⟨_,Ui ?_,L⟩;have G:=D x z;rw[az K] at G;rw[bf w,ai,s5 w,sY w,U,uY G,aX w af];omega
  .obtain⟨V,f1,N1⟩:=ih x o _ z K D N Q;have O:=yV hf.bd k x o N z;have S:=Hu (sc:=iY f) k x o;obtain⟨q,g1,L⟩:=I _ _ _ (aH w) N1 O af;refine⟨_,Ui ?_,L⟩;have G:=D x z;rw[au K] at G;rw[bf w,ai,s5 w,sY w,U,Cb G,f1,jO,aX w af];omega
theorem h488:∀(k x:Nat) (o:List Nat) (num:List (Int×Int)),x<f.aj.length->x∉o->NM f.aj.length num o->Met f.aj.length o->f.aj.length<k+o.length->
  ∃l,f488 (x:Int) f (iE o) num=some ((),iE (nX (iY f) k x o),l)/\NM f.aj.length l (nX (iY f) k x o):=by
 intro k;induction k with
 |zero=>intro x o num _ _ _ z N;have:=vN z.nd z.lt;omega
 |succ k P=>
  intro x o num D w K z N;have O:=vN z.nd z.lt;have q:=hf.ao (br D);have L:=q.len;obtain⟨l,Q,I⟩:=h488_3 hf hn hF P q _ 0 _ _ rfl (K.snoc w) (z.snoc D w) (by grind);have G:nX (iY f) (k+1) x o=rS (iY f) k (f.aj[x].bD.map λa=>(a.aT,a.To.toNat)) (o++[x]):=by rw[nX,au w,qu _];rfl
  rw[G];refine⟨_,e488 ?_,I⟩;rw[sG,bU _ (by grind[iE]) ah af,bS D,c489,ak,c490 q.yh af];simp_all[iE]
theorem h457_12 {i:Nat} (S:i<f.aj.length) {L:FSt} {num:List (Int×Int)} (P:NM f.aj.length num (List.range f.aj.length)) {w:List Node} (I:i<w.length) {N:List Int} {a b:List Node} {res:FSt}
  (hr:Kj (f.aj.length:Int) ((i+1:Nat):Int) f L num (w.set i f.aj[i]) N a b=some res):∀(xs:List bY) (k:Nat),f.aj[i].bD.drop k=xs->
  Et (i:Int) (i:Int) (f.aj.length:Int) (i:Int) (f.aj[i].bD.length:Int) (k:Int) f L num w f.aj[i].bD N a b=some res:=by
 have z:=hf.ao (br S);have Q:=z.len;intro xs;induction xs with
 |nil=>intro k l;refine Wv ?_;rw[bq l,aA,bS _,uP I,aR,DH I,bp af];omega
 |cons c xs V=>
  intro k l;have R:=(z.ok c (aI (bA l))).2;obtain⟨x,K⟩:=eN R.1;have q:x<f.aj.length:=af;have U:=c9 l;have G:=P x q;rw[az (eM.2 q),Lr q] at G;have D :=by have:=bA l;rw[aM U] at this;exact cU this
  refine Wv ?_;rw[bf l,ai,s5 l,sY l];have O:tO num c.To=tO num (x) (R:=FSt):=by rw[K]
  rw[O,uY G,s5 l,sY l,aX l af,aR,<-K];have e1:f.aj[i].bD.set k ⟨c.aT,c.To⟩=f.aj[i].bD:=by
   have:(⟨c.aT,c.To⟩)=f.aj[i].bD[k]:=by rw[D]
   grind[List.set_getElem_self]
  rw[e1];exact V _ (aH l)
theorem c457:f457 f 0=some f:=by
 obtain⟨w,f1,I⟩:=h488 hf hn hF (f.aj.length+1) 0 _ [] hf.ne ah (λx P=>rfl) Met.nil ah;have N:nX (iY f) _ 0 _=List.range _:=hf.ord;rw[N] at f1 I;have D:(iE (List.range f.aj.length)).length=f.aj.length:=by simp[iE]
 have key:∀(k i),f.aj.length=i+k->∀a b:List _,Kj (f.aj.length) (i) f ⟨[]⟩ w (f.aj.take i++replicate k ⟨0,[]⟩) (iE (List.range f.aj.length)) a b=some f:=by intro k;induction k with
  |zero=>simp_all[acg]
  |succ k Q=>
   intro i O a b;have q:i<f.aj.length:=af;have l:=hf.ao (br q);have L:=l.len;refine acg ?_;have z:(iE (List.range f.aj.length)).getD i 0=(i):=by unfold iE;rw[lC (by simp_all)];simp
   rw[cond_pos (by grind),qH af,z,bS q,c489,ak,c490 l.yh af,ak];refine h457_12 hf hn hF _ I (by simp_all) ?_ _ 0 rfl;have e:(f.aj.take i++replicate (k+1) (⟨0,[]⟩:Node)).set i f.aj[i]=f.aj.take (i+1)++replicate k ⟨0,[]⟩:=by
    have G:(f.aj.take i).length=i:=by rw[fI];omega
    rw[mO _ _ af,G,mS,cr,aM _,eT];rfl
   grind
 refine e457 ?_;have K:f488 0 f [] _=some _:=f1;rw[K,jO,bh ⟨af,by omega,by omega,af⟩,D];have:=key f.aj.length 0 af [] [];assumption
theorem c437 (I:f.aj.length<=4096):f437 f=some (f,0):=by
 have G:=hf.ne;have key:∀(xs) (i),f.aj.drop i=xs->O4 f.aj (f.aj.length) (i) f ⟨[]⟩=some (f,0):=by intro xs;induction xs with
  |nil=>intro i l;refine ab1 ?_;rw[bq l,aA,c457 hf hn hF,ak]
  |cons x xs D=>intro i l;have w:=aI (bA l);have q:=hf.ao w;have z:=q.len;refine ab1 ?_;rw[bf l,ai,aQ l,c456 (hf.Pw w).1 q af,ak,cond_neg (by rfl),aX l af];exact D _ (aH l)
 refine e437 ?_;grind
theorem c422 {h:bR} (O:h.Types.length=T) (K:h.cE.length=F) (I:f.aj.length<=4096):f422 h f=some 0:=by
 have key:∀(xs) (i),f.aj.drop i=xs->OS f.aj (f.aj.length) (i) h f f=some 0:=by intro xs;induction xs with
  |nil=>intro i q;refine abM ?_;rw[bq q,aA,c446_eq af (λx z=>by have:=(hf.ao z).len;omega),ak,cond_neg (by rfl)]
  |cons x xs N=>
   intro i q;have z:=aI (bA q);have w:=hf.ao z;have L:=w.len;have hty:=hf.Pw z;have inner:∀(D) (k),x.bD.drop k=D->Hr f.aj (f.aj.length) (i) x.bD (x.bD.length) (k) h f f x=some 0:=by intro D;induction D with
    |nil=>intro k l;refine Wl ?_;rw[bq l,aA,aX q af];exact N _ (aH q)
    |cons a D G=>intro k l;have P:=(w.ok a (aI (bA l))).1;refine Wl ?_;rw[bf l,ai,aQ l,cond_neg (by simp_all),aX l af];exact G _ (aH l)
   refine abM ?_;rw[bf q,aQ q];grind
 refine e422 ?_;rw[c437 hf hn hF I];grind
end
section
variable {h:bR} {T F:Nat} {sb:Int->Int->Prop} {bW:Int->Int} {val:Int->Int->Int} (H:HX h T F sb bW val) {f:FSt}
include H
theorem c411 (hf:Can T F f) (hw:WT sb bW val f) (h4:f.aj.length<=4096) (hF:F<=1000):f411 h f=some 0:=by
 have key:∀(xs) (i),f.aj.drop i=xs->OM f.aj (f.aj.length) (i) h f=some 0:=by intro xs;induction xs with
  |nil=>intro i q;refine abH ?_;rw[bq q,aA]
  |cons x xs ih=>
   intro i q;have L:=bA q;have Q:=aI L;have z:=hf.ao Q;have hal:=z.len;have N:=c9 q;have inner:∀(I) (k),x.bD.drop k=I->ON f.aj (f.aj.length) (i) x.bD (x.bD.length) (k) h f x=some 0:=by intro I;induction I with
    |nil=>intro k l;refine abI ?_;rw[bq l,aA,aX q af];exact ih _ (aH q)
    |cons a I P=>
     intro k l;have w:=aI (bA l);have K:=z.ok a w;obtain⟨t,ht⟩:=eN K.2.1;have D:t<f.aj.length:=af;have O:(a.aT,t)∈iY f i:=by
      have:iY f i=SE x:=by unfold iY;rw[L]
      rw[this];exact aD.2 ⟨a,w,by simp_all⟩
     obtain⟨R,S⟩:=hw i N _ O;have U:ny f i=x.cQ:=by unfold ny;rw[L]
     have V:ny f t=f.aj[t].cQ:=ox _;simp[U,V] at R S;have hty:=hf.Pw Q;have G:=hf.Pw (br D);obtain⟨v1,_,v3,v4⟩:=H.hv.vl _ _ hty.1 hty.2 K.1.1 K.1.2 R;obtain⟨r,s1,_,s3⟩:=H.ss _ _ v3 v4 G.1 G.2;rw[s3.2 S] at s1;refine abI ?_;rw[bf l,ai,aQ l,v1,ak,cond_neg (by rfl),ht,bS D,s1,ak,cond_neg (by rfl),aX l af];exact P _ (aH l)
   refine abH ?_;rw[aQ q];grind
 refine e411 ?_;rw[c422 hf af hF H.tl H.hv.fl h4];grind
theorem c417 (R:PC f):∃e,f417 h f=some e/\(e=0->Can T F f/\WT sb bW val f):=by
 obtain⟨e0,g1,V⟩:=c410 (h:=h) (f:=f) λx K=>by have:=R.a x K;omega
 rw[H.tl,H.hv.fl] at V;by_cases D:e0=0
 .have hf:=(V.1 D).1;have hn:=R.n;have key:∀(xs:List Node) (i:Nat),f.aj.drop i=xs->∃e,OP (i:Int) h f=some e/\(e=0->∀n,i<=n->n<f.aj.length->Gv sb bW val f (ny f) n):=by
   intro xs;induction xs with
   |nil=>intro i z;have:=iq z;refine⟨0,abK ?_,λ_ n h1 h2=>absurd h2 af⟩;grind
   |cons x xs ih=>
    intro i z;have G:=bA z;have K:=aI G;have Q:=hf.ao K;have hal:=R.a x K;have hil:=c9 z;have ei:ny f i=x.cQ:=by unfold ny;rw[G]
    have S:iY f i=SE x:=by unfold iY;rw[G]
    obtain⟨e,q1,N⟩:=ih (i+1) (aH z);have inner:∀(L:List bY) (k:Nat),x.bD.drop k=L->∃e,OQ (i:Int) x.bD (k:Int) h f=some e/\(e=0->(∀a∈L,sb (bW a.aT) x.cQ/\sb (val x.cQ a.aT) (ny f a.To.toNat))/\∀n,i+1<=n->n<f.aj.length->Gv sb bW val f (ny f) n):=by intro L;induction L with
     |nil=>intro k l;refine⟨e,M7 ?_,λD=>⟨λa w=>by(cases w),N D⟩⟩;rw[bq l,aA,aX z af];omega
     |cons a L U=>
      intro k l;have P:=aI (bA l);have w:=Q.ok a P;obtain⟨t,ht⟩:=eN w.2.1;have q:t<f.aj.length:=af;have hty:=hf.Pw K;have I:=hf.Pw (br q);by_cases hs:sb (bW a.aT) x.cQ
      .obtain⟨_,O,v3,v4⟩:=H.hv.vl _ _ hty.1 hty.2 w.1.1 w.1.2 hs;obtain⟨r,_,s2,s3⟩:=H.ss _ _ v3 v4 I.1 I.2;cases r with
       |false=>refine⟨11,M7 ?_,λe=>by omega⟩;rw[bf l,ai,ey G,aQ l,O,ak,cond_neg (by rfl),aQ l,ht,bS q,s2,ak,cond_pos (by rfl)]
       |true=>
        obtain⟨e2,p1,p2⟩:=U _ (aH l);refine⟨e2,M7 ?_,λe=>⟨λb hb=> ?_,(p2 e).2⟩⟩
        .rw[bf l,ai,ey G,aQ l,O,ak,cond_neg (by rfl),aQ l,ht,bS q,s2,ak,cond_neg (by rfl),aX l af];omega
        .rcases aG.1 hb with rfl|hb
         .have:b.To.toNat=t:=af
          rw[this,ox q];simp_all
         simp_all
      .obtain⟨v,_,O⟩:=H.hv.noval _ _ hty.1 hty.2 w.1.1 w.1.2 hs;refine⟨10,M7 ?_,λe=>by omega⟩;rw[bf l,ai,ey G,aQ l,O,ak,cond_pos (by rfl)]
    obtain⟨e,q1,N⟩:=inner _ 0 rfl;refine⟨e,abK ?_,λD n h1 h2=> ?_⟩
    .rw[bf z,ai,aQ z];omega
    .by_cases en:n=i
     .subst en;intro p hp;rw[S] at hp;obtain⟨a,w,rfl⟩:=aD.1 hp;simp_all
     grind
  obtain⟨e,q1,N⟩:=key _ 0 rfl;refine⟨e,e417 ?_,λD=>⟨hf,λn hn=>N D n af hn⟩⟩;simp_all
 simp_all[e417,cond_pos]
end
