/- Unification by classes (the program's). -/
import Derived.Test.YtacapiamkgkkjaaGreatDoorClXd
set_option linter.all false
open List (replicate)
namespace Go.Proofs.YtacapiamkgkkjaaGreatDoor.cl.pf
open Go Go.AM
structure HM (h:aU) (T:Nat) (sb:Int->Int->Prop):Prop where
 to:TO T sb
 mt:∀a b:Int,0<=a->a<(T:Int)->0<=b->b<(T:Int)->
  (∃t,f335 h a b=some (t,true)/\f336 h a b=some (t,true)/\sb a t/\sb b t/\∀c,sb a c->sb b c->sb t c)\/
  (∃t,f335 h a b=some (t,false)/\f336 h a b=some (t,false)/\∀c,sb a c->sb b c->False)
def MS (l:List dL):List (Nat×Nat):=l.map λp=>(p.a0.toNat,p.a1.toNat)
def yx (rep:Nat->Nat) (wt:List (Nat×Nat)) (x y:Nat):Prop:=∀E:Nat->Nat->Prop,Equivalence E->(∀a b,rep a=rep b->E a b)->(∀p∈wt,E p.1 p.2)->E x y
def yx.imp {rep l:Nat->Nat} {wt q:List (Nat×Nat)} {x y:Nat} (G:∀a b,rep a=rep b->yx l q a b) (I:∀p∈wt,yx l q p.1 p.2) (h:yx rep wt x y):yx l q x y:=
 λE w z D=>h E w (λa b hab=>G a b hab E w z D) λp K=>I p K E w z D
def yx.xC {rep:Nat->Nat} {wt:List (Nat×Nat)} {x y:Nat} (h:rep x=rep y):yx rep wt x y:=λE _ l _=>l x y h
theorem yx.Ke {rep:Nat->Nat} {wt:List (Nat×Nat)} {p:Nat×Nat} (h:p∈wt):yx rep wt p.1 p.2:=λE _ _ l=>l p h
def yx.symm {rep:Nat->Nat} {wt:List (Nat×Nat)} {x y:Nat} (h:yx rep wt x y):yx rep wt y x:=λE l q w=>l.symm (h E l q w)
theorem yx.trans {rep:Nat->Nat} {wt:List (Nat×Nat)} {x y z:Nat} (h:yx rep wt x y) (D:yx rep wt y z):yx rep wt x z:=λE l q w=>l.trans (h E l q w) (D E l q w)
def yx.done {rep:Nat->Nat} {x y:Nat} (h:yx rep [] x y):rep x=rep y:=
 h (λa b=>rep a=rep b) ⟨λ_=>rfl,λh=>h.symm,λh l=>h.trans l⟩ (λ_ _ h=>h) (λp q=>by cases q)
structure AO (F n:Nat) (l:List cB):Prop where
 Aj:DK l
 ok:∀a∈l,(0<=a.bM/\a.bM<(F:Int))/\0<=a.To/\a.To<(n:Int)
def AO.len {F n:Nat} {l:List cB} (h:AO F n l):l.length<=F:=by
 have:=x4 (N:=F) (o:=l.map λa=>a.bM.toNat) (by
  have q:=h.Aj;have w:=h.ok;clear h;induction l with
  |nil=>simp
  |cons x l I=>
   have z:=dO.1 q;rw[bu,fM];refine⟨λK=> ?_,I z.2 λa ha=>w a (by simp[ha])⟩
   grind) (λx D=>by
  obtain⟨y,G,rfl⟩:=aD.1 D;have:=(h.ok y G).1
  omega)
 simp_all
def AO.mg {F n:Nat} {x y:List cB} (l:AO F n x) (q:AO F n y):AO F n (mg x y).1:=
 ⟨Oy _ x y (aW _) l.Aj q.Aj,λa ha=>((G7 _ x y (aW _)).sub a ha).elim (l.ok a) (q.ok a)⟩
structure JI (T:Nat) (Q:List cB->Prop) (sb:Int->Int->Prop) (U:Gr) (n:Nat) (W:List (Nat×Nat)) (wt:List dL) (par ty:List Int) (ar:List (List cB)) (rep d:Nat->Nat):Prop where
 pi:PI n par rep d
 lt:ty.length=n
 la:ar.length=n
 tr:∀x,x<n->0<=ty.getD x 0/\ty.getD x 0<(T:Int)
 ao:∀x,x<n->Q (ar.getD x [])
 wo:∀p∈wt,(0<=p.a0/\p.a0<(n:Int))/\0<=p.a1/\p.a1<(n:Int)
 sty:∀x,x<n->sb (U.ty x) (ty.getD (rep x) 0)
 Za:∀x,x<n->∀p∈U.sc x,∃a∈ar.getD (rep x) [],a.bM=p.1/\yx rep (MS wt) p.2 a.To.toNat
 seq:∀p∈W,yx rep (MS wt) p.1 p.2
 dy:∀C m,Det C->Te sb U n W C m->(∀x,x<n->m (rep x)=m x)/\(∀x,x<n->rep x=x->sb (ty.getD x 0) (C.ty (m x))/\∀a∈ar.getD x [],(a.bM,m a.To.toNat)∈C.sc (m x))/\∀p∈MS wt,m p.1=m p.2
def cnt (n:Nat) (rep:Nat->Nat):Nat:=((List.range n).filter λx=>rep x==x).length
section
variable {T:Nat} {Q:List cB->Prop} {sb:Int->Int->Prop} {U:Gr} {n:Nat} {W:List (Nat×Nat)} {wt:List dL} {par ty:List Int} {ar:List (List cB)} {rep d:Nat->Nat}
theorem rY (p:dL):MS (wt++[p])=MS wt++[(p.a0.toNat,p.a1.toNat)]:=by simp[MS]
def JI.qB (h:JI T Q sb U n W wt par ty ar rep d) {l:List Int} {q:Nat->Nat} (w:PI n l rep q):JI T Q sb U n W wt l ty ar rep q:={ h with pi:=w }
def JI.skip {p:dL} (h:JI T Q sb U n W (wt++[p]) par ty ar rep d) (e:rep p.a0.toNat=rep p.a1.toNat):JI T Q sb U n W wt par ty ar rep d:=by
 have key:∀{x y},yx _ (MS (wt++[p])) x y->yx _ _ x y:=λ{x y}=>yx.imp (λa b hab=> .xC hab) λq l=>by
  rw[rY] at l;rcases bA.1 l with l|l
  .exact .Ke l
  .rw[bS] at l;subst l;exact .xC e
 refine { h with wo:=λq l=>h.wo q (by simp[l]),Za:=λx K q l=> ?_,seq:=λq l=>key (h.seq q l),dy:=λC m G I=> ?_ }
 .obtain⟨a,w,z,D⟩:=h.Za x K q l;grind
 .obtain⟨w,z,D⟩:=h.dy C m G I;exact⟨w,z,λq l=>D q (by rw[rY];grind)⟩
def JI.mem {wt':List dL} (h:JI T Q sb U n W wt par ty ar rep d) (z:∀p,p∈wt↔p∈wt'):JI T Q sb U n W wt' par ty ar rep d:=by
 have key:∀{x y},yx rep (MS _) x y->yx _ (MS _) x y:=λ{x y}=>yx.imp (λa b hab=> .xC hab) λq l=>by obtain⟨p,w,rfl⟩:=aD.1 l;exact .Ke (aD.2 ⟨p,(z p).1 w,rfl⟩)
 refine { h with wo:=λq l=>h.wo q ((z q).2 l),Za:=λx N q l=> ?_,seq:=λq l=>key (h.seq q l),dy:=λC m K L=> ?_ }
 .obtain⟨a,D,G,I⟩:=h.Za x N q l;grind
 .obtain⟨D,G,I⟩:=h.dy C m K L;refine⟨D,G,λq l=> ?_⟩;obtain⟨p,w,rfl⟩:=aD.1 l;exact I _ (aD.2 ⟨p,(z p).2 w,rfl⟩)
def JI.swap {p:dL} (h:JI T Q sb U n W (wt++[p]) par ty ar rep d):JI T Q sb U n W (wt++[⟨p.a1,p.a0⟩]) par ty ar rep d:=by
 have key:∀{x y},yx rep (MS (wt++[p])) x y->yx _ (MS (wt++[⟨p.a1,p.a0⟩])) x y:=λ{x y}=>yx.imp (λa b hab=> .xC hab) λq l=>by
  rw[rY] at l⊢;rcases bA.1 l with l|l
  .exact .Ke (by simp[l])
  .rw[bS] at l;subst l;exact yx.symm (yx.Ke (p:=(p.a1.toNat,p.a0.toNat)) ai)
 refine { h with wo:=λq l=> ?_,Za:=λx K q l=> ?_,seq:=λq l=>key (h.seq q l),dy:=λC m G I=> ?_ }
 .rcases bA.1 l with l|l
  .exact h.wo q (by simp[l])
  .have:=h.wo p ai;simp_all
 .obtain⟨a,w,z,D⟩:=h.Za x K q l;grind
 .obtain⟨w,z,D⟩:=h.dy C m G I;refine⟨w,z,λq l=> ?_⟩;rw[rY] at l;rcases bA.1 l with l|l
  .grind[rY]
  .rw[bS] at l;subst l;exact(D (p.a0.toNat,p.a1.toNat) (by rw[rY];simp)).symm
def JI.start {a b:Nat} (h:JI T Q sb U n W [] par ty ar rep d) (ha:a<n) (hb:b<n):JI T Q sb U n (W++[(a,b)]) [⟨a,b⟩] par ty ar rep d:=by
 have key:∀{x y},yx rep (MS []) x y->yx _ (MS [⟨(a),b⟩]) x y:=λ{x y}=>yx.imp (λa b hab=> .xC hab) λq l=>by cases l
 refine { h with wo:=λq l=> ?_,Za:=λx L q l=> ?_,seq:=λq l=> ?_,dy:=λC m I w=> ?_ }
 .simp_all
 .obtain⟨c,z,D,G⟩:=h.Za x L q l;grind
 .rcases bA.1 l with l|l
  .exact key (h.seq q l)
  grind[yx.Ke,MS]
 .obtain⟨z,D,G⟩:=h.dy C m I { w with eq:=λp K=>w.eq p (by simp[K]) };refine⟨z,D,λq l=> ?_⟩;simp[MS,bu,eY,bS] at l;subst l;exact w.eq _ ai
section
variable {p:dL} (h:JI T Q sb U n W (wt++[p]) par ty ar rep d) {a b:Nat} (ha:rep p.a0.toNat=a) (hb:rep p.a1.toNat=b) (hab:a≠b)
include h
theorem JI.pn:p.a0.toNat<n/\p.a1.toNat<n:=by have:=h.wo p ai;omega
include ha hb
theorem JI.rn:a<n/\b<n/\rep a=a/\rep b=b:=by obtain⟨l,q⟩:=h.pn;have w:=h.pi.rl _ l;have z:=h.pi.rl _ q;have D:=h.pi.rr _ l;have G:=h.pi.rr _ q;simp_all
theorem JI.meq {C:Gr} {m:Nat->Nat} (q:Det C) (w:Te sb U n W C m):m a=m b:=by obtain⟨z,D⟩:=h.pn;obtain⟨e1,_,l⟩:=h.dy C m q w;have:=l (p.a0.toNat,p.a1.toNat) (by rw[rY];simp);grind
theorem JI.no (G:∀c,sb (ty.getD a 0) c->sb (ty.getD b 0) c->False) (C:Gr) (m:Nat->Nat) (l:Det C) (q:Te sb U n W C m):False:=by obtain⟨z,I,D,K⟩:=h.rn ha hb;obtain⟨_,w,_⟩:=h.dy C m l q;refine G _ (w a z D).1 ?_;rw[h.meq ha hb l q];simp_all
include hab
theorem JI.merge (hQ:∀l,Q l->∀c∈l,0<=c.To/\c.To<(n:Int)) (hT:∀{a b c},sb a b->sb b c->sb a c) {r:List cB×List dL} (M:MG (ar.getD a []) (ar.getD b []) r) (w:Q r.1) {t:Int} (t0:0<=t/\t<(T:Int)) (t1:sb (ty.getD a 0) t) (t2:sb (ty.getD b 0) t) (t3:∀c,sb (ty.getD a 0) c->sb (ty.getD b 0) c->sb t c):
  JI T Q sb U n W (wt++r.2) (par.set b a) (ty.set a t) (ar.set a r.1) (λx=>if rep x=b then a else rep x) (λx=>if rep x=b then d x+d a+1 else d x):=by
 obtain⟨G,R,K,N⟩:=h.rn ha hb;have key:∀{x y},yx rep (MS (wt++[p])) x y->yx (λx=>if rep x=b then a else rep x) (MS (wt++r.2)) x y:=λ{x y}=>yx.imp (λu v S=> .xC (by show(if _ then _ else _)=if _ then _ else _;rw[S])) λq w=>by
  rw[rY] at w;rcases bA.1 w with w|w
  .exact .Ke (by unfold MS at *;rw[bZ];simp[w])
  .rw[bS] at w;subst w;refine .xC ?_;show(if _ then _ else _)=if _ then _ else _
   rw[ha,hb,aA hab,aB rfl]
 have Ms:b<par.length:=by rw[h.pi.len];exact R
 have hne:∀x,rep x=b->x≠a:=λx e z=>hab (by rw[<-e,z,K])
 refine⟨⟨by rw[ji];exact h.pi.len,λx D=> ?_,λx D=> ?_,λx D=> ?_,λx D=> ?_⟩,by rw[ji];exact h.lt,by rw[ji];exact h.la,λx D=> ?_,λx D=> ?_,λq w=> ?_,λx D=> ?_,λx D q w=> ?_,λq w=>key (h.seq q w),λC m hC hs=> ?_⟩
 .by_cases e:b=x
  .subst e;refine⟨a,G,by rw[e9,aB ⟨rfl,Ms⟩],?_, .inr ?_⟩
   .show(if _ then _ else _)=if _ then _ else _
    rw[K,N,aA hab,aB rfl]
   .show(if _ then _ else _)<if _ then _ else _
    rw[K,N,aA hab,aB rfl];omega
  .obtain⟨y,hy,g1,g2,g3⟩:=h.pi.up x D;refine⟨y,hy,by rw[e9,aA (λh=>e h.1)];exact g1,?_,?_⟩
   .show(if _ then _ else _)=if _ then _ else _
    rw[g2]
   .refine g3.imp id λg3=> ?_
    show(if _ then _ else _)<if _ then _ else _
    rw[g2];by_cases z:rep x=b
    .rw[aB z,aB z];omega
    .rw[aA z,aA z];exact g3
 .show _↔(if rep x=b then a else rep x)=x;by_cases e:b=x
  .subst e;rw[e9,aB ⟨rfl,Ms⟩,aB N];omega
  .rw[e9,aA (λh=>e h.1),h.pi.fix x D];by_cases z:rep x=b
   .rw[aB z];have:=hne x z;omega
   .rw[aA z]
 .show(if _ then _ else _)<n;split
  .exact G
  .exact h.pi.rl x D
 .show(if rep (if rep x=b then a else rep x)=b then a else rep (if rep x=b then a else rep x))=if rep x=b then a else rep x
  by_cases z:rep x=b
  .rw[aB z,K,aA hab]
  .rw[aA z,h.pi.rr x D,aA z]
 .rw[e9];split
  .exact t0
  .exact h.tr x D
 .rw[e9];split
  .exact w
  .exact h.ao x D
 .rcases bA.1 w with w|w
  .exact h.wo q (by simp[w])
  .obtain⟨u,hu,v,hv,_,rfl⟩:=M.pair q w;exact⟨hQ _ (h.ao a G) u hu,hQ _ (h.ao b R) v hv⟩
 .have h0:=h.sty x D;show sb _ ((ty.set a t).getD (if rep x=b then a else rep x) 0);have I:a<ty.length:=by rw[h.lt];exact G
  by_cases z:rep x=b
  .rw[aB z,e9,aB ⟨rfl,I⟩];rw[z] at h0;exact hT h0 t2
  .rw[aA z];by_cases L:a=rep x
   .rw[<-L,e9,aB ⟨rfl,I⟩];rw[<-L] at h0;exact hT h0 t1
   .rw[e9,aA (λh=>L h.1)];exact h0
 .obtain⟨c,P,V,h3⟩:=h.Za x D q w;have I:a<ar.length:=by rw[h.la];exact G
  show∃c∈(ar.set a _).getD (if rep x=b then a else rep x) [],_;by_cases z:rep x=b
  .rw[aB z,e9,aB ⟨rfl,I⟩];rw[z] at P;obtain⟨c',m1,m2,m3⟩:=M.right c P;refine⟨c',m1,by rw[m2,V],?_⟩;rcases m3 with rfl|m3
   .exact key h3
   .refine(key h3).trans (yx.symm (yx.Ke (p:=(c'.To.toNat,c.To.toNat)) ?_));unfold MS;rw[bZ];exact gQ _ (aD.2 ⟨_,m3,rfl⟩)
  .rw[aA z];by_cases L:a=rep x
   .rw[<-L,e9,aB ⟨rfl,I⟩];rw[<-L] at P;exact⟨c,M.left c P,V,key h3⟩
   .rw[e9,aA (λh=>L h.1)];exact⟨c,P,V,key h3⟩
 .obtain⟨e1,z,L⟩:=h.dy C m hC hs;have hm:=h.meq ha hb hC hs;have I:a<ar.length:=by rw[h.la];exact G
  have hal':a<ty.length:=by rw[h.lt];exact G
  obtain⟨a1,a2⟩:=z a G K;obtain⟨b1,b2⟩:=z b R N;rw[<-hm] at b1 b2;refine⟨λx D=> ?_,λx D O=> ?_,λq w=> ?_⟩
  .show m (if rep x=b then a else rep x)=m x;by_cases e:rep x=b
   .rw[aB e,hm,<-e,e1 x D]
   .rw[aA e,e1 x D]
  .have O:(if rep x=b then a else rep x)=x:=O;by_cases e:rep x=b
   .rw[aB e] at O;exact absurd O.symm (hne x e)
   .rw[aA e] at O;by_cases e4:a=x
    .subst e4;rw[e9,aB ⟨rfl,hal'⟩,e9,aB ⟨rfl,I⟩];exact⟨t3 _ a1 b1,λc hc=>(M.sub c hc).elim (a2 c) (b2 c)⟩
    .rw[e9,aA (λh=>e4 h.1),e9,aA (λh=>e4 h.1)];exact z x D O
  .unfold MS at w;rw[bZ] at w;rcases bA.1 w with w|w
   .exact L q (by rw[rY];exact cT _ w)
   .obtain⟨r',O,rfl⟩:=aD.1 w;obtain⟨u,hu,v,hv,S,rfl⟩:=M.pair r' O;have P:=a2 u hu;have V:=b2 v hv;rw[<-S] at V;exact(hC _).Qd P V
theorem Mb:cnt n (λx=>if rep x=b then a else rep x)+1<=cnt n rep:=by
 obtain⟨q,l,w,z⟩:=h.rn ha hb;have e:(List.range n).filter (λx=>(if rep x=b then a else rep x)==x)=((List.range n).filter λx=>rep x==x).filter λx=>x !=b:=by
  rw[DW];refine lQ λx _=> ?_
  by_cases D:rep x=b<;>grind
 unfold cnt;rw[e];exact List.length_filter_lt_length_iff_exists.2 ⟨b,cE.2 ⟨gp.2 l,by simp_all⟩,ai⟩
end
end
def h443 {h:aU} {T F n:Nat} {sb:Int->Int->Prop} (H:HM h T sb) {U:Gr} {W:List (Nat×Nat)} {o:List dL} (hF:F<=1000000):∀(c k:Nat) (wt:List dL) (par ty:List Int) (ar:List (List cB)) (rep d:Nat->Nat),
  cnt n rep<=c->wt.length<=k->wt.length+cnt n rep *F<=500000000->JI T (AO F n) sb U n W wt par ty ar rep d->
  (∃q z w I d',zG wt o h.Types h.bN par ty ar=some (true,q,z,w)/\JI T (AO F n) sb U n W [] q z w I d')\/
  ((∃q z w,zG wt o h.Types h.bN par ty ar=some (false,q,z,w))/\∀C m,Det C->Te sb U n W C m->False):=by
 intro c;induction c using Nat.strongRecOn with
 |ind c ihc=>
 intro k;induction k with
 |zero=>intro wt par ty ar rep d hc hk hb J;have e:wt=[]:=nS.1 af;subst e;exact .inl ⟨par,ty,ar,rep,d,Uq (by rw[cond_neg (by rfl)]),J⟩
 |succ k ihk=>
  intro wt par ty ar rep d hc hk hb J;rcases List.eq_nil_or_concat wt with rfl|⟨L,p,rfl⟩
  .exact .inl ⟨par,ty,ar,rep,d,Uq (by rw[cond_neg (by rfl)]),J⟩
  .rw[List.concat_eq_append] at *;have hl:(L++[p]).length=L.length+1:=ai;rw[hl] at hk hb;obtain⟨⟨p1,p2⟩,p3,p4⟩:=J.wo p ai;obtain⟨D,hx0⟩:=fU p1;obtain⟨G,hx1⟩:=fU p3;have hx0n:D<n:=af;have hx1n:G<n:=af;have r0:p.a0.toNat=D:=af;have r1:p.a1.toNat=G:=af;obtain⟨pa,f1,P1⟩:=c485 (TL:=h.Types) (FL:=h.bN) (ty:=ty) (ar:=ar) hx0n J.pi;obtain⟨S,f2,P2⟩:=c485 (TL:=h.Types) (FL:=h.bN) (ty:=ty) (ar:=ar) hx1n P1;have J2:=J.qB P2;have hgN:∀{R:Type} (k:dL->Option R),eH (L++[p]) L.length k=k p:=λk=>kZ ai k
   have step:∀(r:Bool×List Int×List Int×List (List cB)),(bif(((rep D:Nat):Int) !=((rep G:Nat):Int)) then(
     I1 (f486 ((rep D:Nat):Int) ((rep G:Nat):Int) h.Types h.bN L S ty ar) λy215 w218 V w220 w221=>bif(!y215) then some (false,V,w220,w221) else zG w218 o h.Types h.bN V w220 w221)
     else zG L o h.Types h.bN S ty ar)=some r->zG (L++[p]) o h.Types h.bN par ty ar=some r:=by
    intro r hr;refine Uq ?_;rw[hl,cond_pos (by rw[bz];omega),oA af,AY af,aV,hgN,bU ⟨af,af⟩,hx0,f1,cO,hx1,f2,cO,uO rfl];exact hr
   by_cases O:rep D=rep G
   .have J3:=J2.skip (by rw[r0,r1];exact O);rcases ihk L S ty ar rep d hc af af J3 with⟨q,z,w,I,d',g1,g2⟩|⟨⟨q,z,w,g1⟩,g2⟩
    .exact .inl ⟨q,z,w,I,d',step _ (by rw[cond_neg (by rw[O];simp)];exact g1),g2⟩
    .exact .inr ⟨⟨q,z,w,step _ (by rw[cond_neg (by rw[O];simp)];exact g1)⟩,g2⟩
   .have ha:rep p.a0.toNat=rep D:=by rw[r0]
    have P:rep p.a1.toNat=rep G:=by rw[r1]
    obtain⟨N,K,hra,hrb⟩:=J2.rn ha P;have hal:rep D<ar.length:=by rw[J.la];exact N
    have Y4:rep G<ar.length:=by rw[J.la];exact K
    have Wc:rep D<ty.length:=by rw[J.lt];exact N
    have hbt:rep G<ty.length:=by rw[J.lt];exact K
    have hbp:rep G<S.length:=by rw[P2.len];exact K
    have hb1:(((rep D:Nat):Int) !=((rep G:Nat):Int))=true:=by rw[kJ];omega
    have ta:=J.tr _ N;have tb:=J.tr _ K;rcases H.mt _ _ ta.1 ta.2 tb.1 tb.2 with⟨t,m1,m2,m3,m4,m5⟩|⟨t,m1,m2,m3⟩
    .have la:=(J.ao _ N).len;have lb:=(J.ao _ K).len;have M:=G7 _ (ar.getD (rep D) []) (ar.getD (rep G) []) (aW _);have J3:=J2.merge ha P O (λl hl c hc=>(hl.ok c hc).2) (λh1 h2=>H.to.trans h1 h2) M ((J.ao _ N).mg (J.ao _ K)) (H.to.rr m3) m3 m4 m5;have hcm:=Mb J2 ha P O;have f3:f486 ((rep D:Nat):Int) ((rep G:Nat):Int) h.Types h.bN L S ty ar=some (true,L++(mg (ar.getD (rep D) []) (ar.getD (rep G) [])).2,S.set (rep G) ((rep D:Nat):Int),ty.set (rep D) t,ar.set (rep D) (mg (ar.getD (rep D) []) (ar.getD (rep G) [])).1):=by
      refine e486 ?_;rw[sG Wc,sG hbt];rw[show(aU.mk h.Types h.bN)=h from rfl,m1,ak,cond_neg (by rfl),sG hbp,sG Wc,Y9 hal,Y9 Y4,aV,aV,h486 hal _ _ _ _ _ (aW _) (by simp only[eS];omega) af,dS]
     have hmul:(cnt n (λx=>if rep x=rep G then rep D else rep x)+1) *F<=cnt n rep *F:=jS F hcm;rw[nq] at hmul;have hml:=M.le;rcases ihc _ (eW (Nat.lt_of_succ_le hcm) hc) (L++(mg (ar.getD (rep D) []) (ar.getD (rep G) [])).2).length _ _ _ _ _ _ (aW _) (aW _) (by rw[cM];omega) J3 with⟨q,z,w,I,d',g1,g2⟩|⟨⟨q,z,w,g1⟩,g2⟩
     .exact .inl ⟨q,z,w,I,d',step _ (by rw[cond_pos hb1,f3,y4,cond_neg (by rfl)];exact g1),g2⟩
     .exact .inr ⟨⟨q,z,w,step _ (by rw[cond_pos hb1,f3,y4,cond_neg (by rfl)];exact g1)⟩,g2⟩
    .have f3:f486 ((rep D:Nat):Int) ((rep G:Nat):Int) h.Types h.bN L S ty ar=some (false,L,S,ty,ar):=by
      refine e486 ?_;rw[sG Wc,sG hbt];rw[show(aU.mk h.Types h.bN)=h from rfl,m1,ak,cond_pos (by rfl)]
     exact .inr ⟨⟨_,_,_,step _ (by rw[cond_pos hb1,f3,y4,cond_pos (by rfl)])⟩,J2.no ha P m3⟩
def ZS (n:Nat) (rep:Nat->Nat):cnt n rep<=n:=by grind[cnt]
def c443 {h:aU} {T F n:Nat} {sb:Int->Int->Prop} (H:HM h T sb) {U:Gr} {W:List (Nat×Nat)} (hF:F<=1000000) {par ty:List Int} {ar:List (List cB)} {rep d:Nat->Nat} {a b:Nat} (ha:a<n) (hb:b<n) (hn:n *F<=400000000) (J:JI T (AO F n) sb U n W [] par ty ar rep d):
  (∃l w q z D,f443 (a:Int) (b:Int) h.Types h.bN par ty ar=some (true,l,w,q)/\JI T (AO F n) sb U n (W++[(a,b)]) [] l w q z D)\/
  ((∃l w q,f443 (a:Int) (b:Int) h.Types h.bN par ty ar=some (false,l,w,q))/\∀C m,Det C->Te sb U n (W++[(a,b)]) C m->False):=by
 have K:cnt n rep *F<=n *F:=jS F (ZS n _);rcases h443 H (o:=[]) hF _ 1 _ _ _ _ _ d (aW _) ai (by grind) (J.start ha hb) with⟨l,w,q,z,D,G,I⟩|⟨⟨l,w,q,G⟩,I⟩
 .grind[e443]
 simp_all[e443]
def me (ty:List Int) (ar:List (List cB)) (rep:Nat->Nat):Gr:=⟨λx=>(ar.getD x []).map λa=>(a.bM,rep a.To.toNat),λx=>ty.getD x 0⟩
def JI.uni {T F n:Nat} {sb:Int->Int->Prop} {U:Gr} {W:List (Nat×Nat)} {par ty:List Int} {ar:List (List cB)} {rep d:Nat->Nat} (J:JI T (AO F n) sb U n W [] par ty ar rep d) (N:Bd U.sc n):XL T F sb U n W (me ty ar rep) rep:=by
 refine⟨⟨λx l p q=> ?_,λx l=> ?_,λx l p q=> ?_,λx l=>J.tr x l⟩,J.pi.rl,J.pi.rr,λx l p q=> ?_,⟨J.sty,λx l p q=> ?_,λp q=>(J.seq p q).done⟩,λC m K L x l=> ?_⟩
 .obtain⟨a,ha,rfl⟩:=aD.1 q;exact J.pi.rl _ (by have:=((J.ao x l).ok a ha).2;omega)
 .show Cn (List.map _ _);unfold Cn;rw[kK];exact(J.ao x l).Aj
 .obtain⟨a,ha,rfl⟩:=aD.1 q;exact((J.ao x l).ok a ha).1
 .obtain⟨a,ha,rfl⟩:=aD.1 q;exact J.pi.rr _ (by have:=((J.ao x l).ok a ha).2;omega)
 .obtain⟨a,ha,G,I⟩:=J.Za x l p q;refine aD.2 ⟨a,ha,?_⟩;rw[G,I.done]
 .obtain⟨e1,D,_⟩:=J.dy C m K L;obtain⟨w,z⟩:=D (rep x) (J.pi.rl x l) (J.pi.rr x l);rw[e1 x l] at w z;refine⟨e1 x l,w,λp q=> ?_⟩;obtain⟨a,ha,rfl⟩:=aD.1 q;show(a.bM,m (rep a.To.toNat))∈_;rw[e1 _ (by have:=((J.ao _ (J.pi.rl x l)).ok a ha).2;omega)];exact z a ha
end Go.Proofs.YtacapiamkgkkjaaGreatDoor.cl.pf
namespace Go.Proofs.YtacapiamkgkkjaaGreatDoor.cl.pf
open Go Go.AM
def OE (G:Gr) (o:List Nat) (y:Nat):Node:=⟨G.ty y,(G.sc y).map λp=>⟨p.1,(o.idxOf p.2:Nat)⟩⟩
def N6 {o l:List Nat} (h:o<+:l) {x:Nat} (q:x∈o):l.idxOf x=o.idxOf x:=by obtain⟨t,rfl⟩:=h;rw[rL,aB q]
def ndO_pre {G:Gr} {o l:List Nat} (h:o<+:l) {y:Nat} (w:∀p∈G.sc y,p.2∈o):OE G o y=OE G l y:=by unfold OE;congr 1;exact gR λp q=>by rw[N6 h (w p q)]
structure NO (n:Nat) (num:List Int) (o:List Nat):Prop where
 len:num.length=n
 at_:∀x,x<n->num.getD x 0=if x∈o then(o.idxOf x:Int) else-1
def NO.snoc {n:Nat} {num:List Int} {o:List Nat} (h:NO n num o) {y:Nat} (z:y<n) (q:y∉o):NO n (num.set y (o.length:Int)) (o++[y]):=by
 refine⟨by rw[ji];exact h.len,λx w=> ?_⟩;rw[e9];by_cases e:y=x
 .subst e;rw[aB ⟨rfl,by rw[h.len];exact z⟩,aB ai,rL,aA q];simp
 .rw[aA (λh=>e h.1),h.at_ x w];by_cases l:x∈o
  .rw[aB l,aB (by simp[l]),rL,aB l]
  .rw[aA l,aA (by simp[l];exact λh=>e h.symm)]
section
variable {T F n:Nat} {TL:List fG} {FL:List cU} {ty:List Int} {ar:List (List cB)} {rep d:Nat->Nat}
variable (la:ar.length=n) (lt:ty.length=n) (hao:∀x,x<n->AO F n (ar.getD x [])) (hrl:∀x,x<n->rep x<n) (hrr:∀x,x<n->rep (rep x)=rep x) (hF:F<=1000000) (hn:n<=1000000)
include hao hrl in
theorem ZR:Bd (me ty ar rep).sc n:=λx q p l=>by obtain⟨a,ha,rfl⟩:=aD.1 l;exact hrl _ (by have:=((hao x q).ok a ha).2;omega)
def VisR (n:Nat) (G:Gr) (rep d:Nat->Nat) (ty:List Int) (ar:List (List cB)) (res:Option (Int×List Int×List Node×List Int×List Int×List (List cB))) (w:Nat) (o z:List Nat) (out:List Node):Prop:=
 ∃l q,res=some ((w:Int),l,out++(z.drop o.length).map (OE G z),q,ty,ar)/\NO n l z/\PI n q rep d
include la lt hao hrl hF hn
theorem h487_9 {k:Nat} {o:List Nat} {y:Nat} {out:List Node} (hy:y<n) (hyo:y∉o) (P:out.length=o.length)
  (ih:∀(x:Nat) (o:List Nat) (num:List Int) (out:List Node) (par:List Int),x<n->NO n num o->PI n par rep d->Met n o->n<k+o.length->out.length=o.length->
   VisR n (me ty ar rep) rep d ty ar (f487 (x:Int) TL FL num out par ty ar) ((nx (me ty ar rep).sc k (rep x) o).idxOf (rep x)) o (nx (me ty ar rep).sc k (rep x) o) out):
  ∀(l:List cB) (i:Nat) (q:List Nat) (num par:List Int),(ar.getD y []).drop i=l->NO n num q->PI n par rep d->Met n q->o++[y]<+:q->n<k+q.length->
   (∀z∈q.drop (o.length+1),∀p∈(me ty ar rep).sc z,p.2∈q)->(∀a∈(ar.getD y []).take i,rep a.To.toNat∈q)->
   ∃D G,PL (o.length:Int) (ar.getD y []) ((ar.getD y []).length:Int) (i:Int) (((ar.getD y []).take i).map λa=>⟨a.bM,(q.idxOf (rep a.To.toNat):Nat)⟩) TL FL num ((out++[⟨ty.getD y 0,[]⟩])++(q.drop (o.length+1)).map (OE (me ty ar rep) q)) par ty ar=
    some ((o.length:Int),D,(out++[OE (me ty ar rep) (sC (me ty ar rep).sc k (l.map λa=>(a.bM,rep a.To.toNat)) q) y])++((sC (me ty ar rep).sc k (l.map λa=>(a.bM,rep a.To.toNat)) q).drop (o.length+1)).map (OE (me ty ar rep) (sC (me ty ar rep).sc k (l.map λa=>(a.bM,rep a.To.toNat)) q)),G,ty,ar)/\
    NO n D (sC (me ty ar rep).sc k (l.map λa=>(a.bM,rep a.To.toNat)) q)/\PI n G rep d:=by
 have hB:Bd (me ty ar rep).sc n:=ZR hao hrl;have hal:=(hao y hy).len;intro l;induction l with
 |nil=>intro i q num par K hN hP hM L hk S I;refine⟨num,par,abE ?_,hN,hP⟩;rw[bp K,au,AY aH,aV,kZ (x:=⟨ty.getD y 0,[]⟩) (by rw[eX aH,fD af,P];simp)];have e1:(ar.getD y []).take i=ar.getD y []:=jV (mh K);rw[e1];simp only[eY,sC,List.foldl_nil];congr 4;rw[yC _ _ aH,pS _ _ af,P,nK,rM];congr 3;unfold OE me;simp only[fk];rfl
 |cons a l ih2=>
  intro i q num par K hN hP hM L hk S I;have ha:a∈ar.getD y []:=bf (cn K);have hok:=((hao y hy).ok a ha).2;obtain⟨x,hx⟩:=fU hok.1;have V:x<n:=af;have N:a.To.toNat=x:=af;have hol:o.length+1<=q.length:=by have:=L.length_le;simpa using this
  obtain⟨D,G,f1,N1,P1⟩:=ih x q num ((out++[⟨ty.getD y 0,[]⟩])++(q.drop (o.length+1)).map (OE (me ty ar rep) q)) par V hN hP hM hk aH;have w:=IJ (sc:=(me ty ar rep).sc) k (rep x) q;have hM2:=zQ hB k (rep x) q hM (hrl x V);obtain⟨c1,c2⟩:=zP hB k (rep x) q hM (hrl x V) hk;have hlen2:=w.length_le
  obtain⟨num2,par2,g1,g2,g3⟩:=ih2 (i+1) (nx (me ty ar rep).sc k (rep x) q) D G (aJ K) N1 P1 hM2 (L.trans w) af (λz O p hp=>by
    by_cases h2:z∈q.drop (o.length+1)
    .exact w.subset (S z h2 p hp)
    .by_cases h3:z∈q
     .obtain⟨t,ht⟩:=w;rw[<-ht,uP hol] at O;rcases bA.1 O with O|O
      .exact absurd O h2
      .have:=hM2.nd;rw[<-ht,iE] at this;exact absurd rfl (this.2.2 z h3 z O)
     .exact c2 z (iK O) h3 p hp) (λb hb=>by
    rw[dr] at hb;rcases bA.1 hb with hb|hb
    .exact w.subset (I b hb)
    .rw[cn K] at hb;simp at hb;subst hb
     rw[N];exact c1)
  refine⟨num2,par2,abE ?_,?_,g3⟩
  .have hcat:(out++[⟨ty.getD y 0,[]⟩])++(q.drop (o.length+1)).map (OE (me ty ar rep) q)++((nx (me ty ar rep).sc k (rep x) q).drop q.length).map (OE (me ty ar rep) (nx (me ty ar rep).sc k (rep x) q))=
     (out++[⟨ty.getD y 0,[]⟩])++((nx (me ty ar rep).sc k (rep x) q).drop (o.length+1)).map (OE (me ty ar rep) (nx (me ty ar rep).sc k (rep x) q)):=by
    rw[ew];refine aR (λz=>(out++[(⟨ty.getD y 0,[]⟩:Node)])++z) ?_;have e1:(q.drop (o.length+1)).map (OE (me ty ar rep) q)=(q.drop (o.length+1)).map (OE (me ty ar rep) (nx (me ty ar rep).sc k (rep x) q)):=
     gR λz O=>ndO_pre w (S z O)
    rw[e1,<-bZ];refine aR (List.map _) ?_;obtain⟨t,ht⟩:=w;rw[<-ht,List.drop_left,uP hol]
   have R:(((ar.getD y []).take i).map λa=>(⟨a.bM,(q.idxOf (rep a.To.toNat):Nat)⟩:cB))++[⟨a.bM,((nx (me ty ar rep).sc k (rep x) q).idxOf (rep x):Nat)⟩]=
     ((ar.getD y []).take (i+1)).map λa=>(⟨a.bM,((nx (me ty ar rep).sc k (rep x) q).idxOf (rep a.To.toNat):Nat)⟩:cB):=by
    rw[dr,cn K,bZ];rw[gR (g:=λa=>(⟨a.bM,((nx (me ty ar rep).sc k (rep x) q).idxOf (rep a.To.toNat):Nat)⟩:cB)) λb hb=>by rw[N6 w (I b hb)]];simp[N]
   have hlt:=eC K;rw[aT K,aj,aP K,hx,f1,I3,cH _ (by rw[bC,fC];omega) ai af,aQ K af,hcat];have:=R;rw[this,g1];simp only[bu,sC,fO,N]
  .simp only[bu,sC,fO,N];exact g2
include hrr in
theorem h487:∀(k x:Nat) (o:List Nat) (num:List Int) (out:List Node) (par:List Int),x<n->NO n num o->PI n par rep d->Met n o->n<k+o.length->out.length=o.length->
  VisR n (me ty ar rep) rep d ty ar (f487 (x:Int) TL FL num out par ty ar) ((nx (me ty ar rep).sc k (rep x) o).idxOf (rep x)) o (nx (me ty ar rep).sc k (rep x) o) out:=by
 have hB:Bd (me ty ar rep).sc n:=ZR hao hrl;intro k;induction k with
 |zero=>intro x o num out par hx L hP N hk _;have:=x4 N.nd N.lt;omega
 |succ k ih=>
  intro x o num out par hx L hP N hk D;obtain⟨K,f1,P1⟩:=c485 (TL:=TL) (FL:=FL) (ty:=ty) (ar:=ar) hx hP;have w:=hrl x hx;have q:rep x<num.length:=by rw[L.len];exact w
  have Uk:rep x<ty.length:=by rw[lt];exact w
  have hal:rep x<ar.length:=by rw[la];exact w
  have hol:=x4 N.nd N.lt;by_cases l:rep x∈o
  .have S:nx (me ty ar rep).sc (k+1) (rep x) o=o:=by rw[nx,aB l]
   rw[S];refine⟨num,K,e487 ?_,L,P1⟩;rw[f1,cO,sG q,L.at_ _ w,aB l,cond_pos (by rw[bz];omega),sG q,L.at_ _ w,aB l];simp
  .have S:nx (me ty ar rep).sc (k+1) (rep x) o=sC (me ty ar rep).sc k ((ar.getD (rep x) []).map λa=>(a.bM,rep a.To.toNat)) (o++[rep x]):=by rw[nx,aA l];rfl
   have hM2:=N.snoc w l;obtain⟨P,R,V,g2,g3⟩:=h487_9 (TL:=TL) (FL:=FL) (d:=d) la lt hao hrl hF hn w l D ih (ar.getD (rep x) []) 0 (o++[rep x]) (num.set (rep x) (o.length:Int)) K rfl (L.snoc w l) P1 hM2 (rG _) (by simp only[cM,c8];omega)
    (λz hz=>by rw[nM ai] at hz;cases hz) (λb hb=>by cases hb)
   rw[S];have G:=BN (sc:=(me ty ar rep).sc) k ((ar.getD (rep x) []).map λa=>(a.bM,rep a.To.toNat)) (o++[rep x]);generalize sC (me ty ar rep).sc k ((ar.getD (rep x) []).map λa=>(a.bM,rep a.To.toNat)) (o++[rep x])=I at *;have Wc:I.idxOf (rep x)=o.length:=by rw[N6 G ai,rL,aA l];simp
   refine⟨P,R,e487 ?_,g2,g3⟩;rw[f1,cO,sG q,L.at_ _ w,aA l,cond_neg (by rfl),sG q,sG Uk,cH _ af ai af,Y9 hal,aV,D,Wc];rw[nM ai,eY,dN,List.take_zero,eY] at V;have e0:((0:Nat):Int)=0:=rfl;rw[e0] at V;rw[V];have O:(out++[OE (me ty ar rep) I (rep x)])++(I.drop (o.length+1)).map (OE (me ty ar rep) I)=out++(I.drop o.length).map (OE (me ty ar rep) I):=by
    have e2:I.drop o.length=rep x::I.drop (o.length+1):=by obtain⟨t,ht⟩:=G;rw[<-ht,ew,List.drop_left,<-ew,uP ai,nM ai];rfl
    rw[e2,bu,ew];rfl
   rw[O]
theorem h444 {root:Nat} {f0:FSt} {o5:List Int} {res:FSt×List Int×List Int×List (List cB)} {par:List Int}:∀(k i:Nat),n=i+k->
  (Qt (f487 (root:Int) TL FL (replicate n (-1)) ([]:List Node) par ty ar) λI G l q w z=>some ((FSt.mk l),q,w,z))=some res->
  PE (root:Int) (n:Int) (i:Int) f0 (replicate i (-1)++replicate k 0) o5 TL FL par ty ar=some res:=by
 intro k;induction k with
 |zero=>
  intro i K D;refine abt ?_
  have:i=n:=af
  subst this;rw[cond_neg (by rw[aS];omega),yT,dN];exact D
 |succ k N=>
  intro i K D;refine abt ?_;have L:i<(replicate i (-1:Int)++replicate (k+1) 0).length:=ai;rw[cond_pos (by rw[bz];omega),sG L,aV,bQ af];have e:(replicate i (-1:Int)++replicate (k+1) 0).set i (-1)=replicate (i+1) (-1)++replicate k 0:=by rw[pS _ _ ai,rJ,nK,tu,rM,uQ];simp
  rw[e];exact N (i+1) af D
include hrr in
theorem c444 {root:Nat} {par:List Int} (D:root<n) (P:PI n par rep d):∃l,f444 (root:Int) TL FL par ty ar=some (nh (me ty ar rep) n (rep root),l,ty,ar):=by
 have z:NO n (replicate n (-1)) []:=⟨ai,λx G=>by rw[aA ai,bq,kN,aB G];rfl⟩
 obtain⟨q,l,w,_,_⟩:=h487 (TL:=TL) (FL:=FL) (d:=d) la lt hao hrl hrr hF hn (n+1) root [] (replicate n (-1)) [] par D z P Met.nil ai rfl;refine⟨l,e444 ?_⟩;rw[bU ⟨af,by omega,by rw[P.len];omega,by rw[P.len];omega⟩,P.len,aV,rJ];have:=h444 (TL:=TL) (FL:=FL) (root:=root) (f0:=⟨[]⟩) (o5:=[]) (par:=par) la lt hao hrl hF hn n 0 af (by rw[w,I3]);rw[yT,dS] at this;exact this
end
end Go.Proofs.YtacapiamkgkkjaaGreatDoor.cl.pf
namespace Go.Proofs.YtacapiamkgkkjaaGreatDoor.cl.pf
open Go Go.AM
def yA (k:Nat) (l:List cB):List cB:=l.map λa=>⟨a.bM,a.To+k⟩
def ids (s k:Nat):List Int:=(List.range' s k).map λ(x:Nat)=>(x:Int)
def aaE (s k:Nat):ids s (k+1)=(s:Int)::ids (s+1) k:=by simp[ids,qX]
def qD (s k:Nat):(ids s k).length=k:=by simp[ids]
def HW (s k j:Nat):ids s k++ids (s+k) j=ids s (k+j):=by unfold ids;rw[<-bZ,List.range'_append_1]
def JC {k x:Nat} (h:x<k):(ids 0 k).getD x 0=(x:Int):=by unfold ids;rw[bq,dP,List.getElem?_range' af];simp
section
variable {TL:List fG} {FL:List cU}
def h442_8 {fr:Nat} {l:List Node} {n v:Int} {q:List cB} {x:Node} {par ty:List Int} {ar:List (List cB)} {res:Unit×List Int×List Int×List (List cB)} (L:fr<=1000000) (N:q.length<=1000000) (D:∀a∈q,0<=a.To/\a.To<=1000000) (G:ar.length<=100000000):
  ∀(xs:List cB) (i:Nat),q.drop i=xs->KY fr l n (IntKind.wrap .i64 (v+1)) TL FL par ty (ar++[yA fr q])=some res->
   PD fr l n v q (q.length:Int) (i:Int) x (yA fr (q.take i)) TL FL par ty ar=some res:=by
 intro xs;induction xs with
 |nil=>intro i w z;refine abr ?_;rw[bp w,au,cH _ af ai af,jV (mh w)];exact z
 |cons a xs K=>
  intro i w z;refine abr ?_;have ha:=D a (bf (cn w));have I:=eC w;rw[aT w,aj,aP w,cH _ (by unfold yA;rw[bC,fC];omega) ai af,aQ w af,oz af af];have e:yA fr (q.take i)++[⟨a.bM,a.To+fr⟩]=yA fr (q.take (i+1)):=by rw[dr,cn w];simp[yA]
  rw[e];exact K (i+1) (aJ w) z
def h442_2 {fr:Nat} {l:List Node} (N:fr+l.length<=1000000) (z:∀x∈l,x.cu.length<=1000000/\∀a∈x.cu,0<=a.To/\a.To<=1000000):∀(xs:List Node) (i:Nat) (par ty:List Int) (ar:List (List cB)),l.drop i=xs->par.length<=fr+i->ty.length<=fr+i->ar.length<=fr+i->
  KY (fr:Int) l (l.length:Int) (i:Int) TL FL par ty ar=some ((),par++ids (fr+i) xs.length,ty++xs.map (·.ee),ar++xs.map λx=>yA fr x.cu):=by
 intro xs;induction xs with
 |nil=>intro i par ty ar q _ _ _;refine abq ?_;rw[bp q,au];simp[ids]
 |cons x xs G=>intro i par ty ar q I K L;have w:=z x (bf (cn q));have D:=eC q;refine abq ?_;rw[aT q,aj,aP q,cH _ af ai af,cH _ af ai af,oz af af];refine h442_8 af w.1 w.2 af x.cu 0 rfl ?_;rw[aQ q af,G (i+1) _ _ _ (aJ q) aH aH aH,bw,aaE];have e:(fr:Int)+(i:Int)=((fr+i:Nat):Int):=af;rw[e];simp[kS]
def ZH {l:List Node} {par ty:List Int} {ar:List (List cB)} {fr:Nat} (z:par.length=fr) (D:ty.length=fr) (ha:ar.length=fr) (q:fr+l.length<=1000000) (w:∀x∈l,x.cu.length<=1000000/\∀a∈x.cu,0<=a.To/\a.To<=1000000):
  f442 l TL FL par ty ar=some ((),par++ids fr l.length,ty++l.map (·.ee),ar++l.map λx=>yA fr x.cu):=by
 refine e442 ?_;rw[z];exact h442_2 q w l 0 par ty ar rfl af af af
end
def JI.init {T n:Nat} {Q:List cB->Prop} {sb:Int->Int->Prop} {U:Gr} {par ty:List Int} {ar:List (List cB)} (I:∀{a},0<=a->a<(T:Int)->sb a a) (q:par=ids 0 n) (K:ty.length=n) (ha:ar.length=n) (w:∀x,x<n->0<=ty.getD x 0/\ty.getD x 0<(T:Int)) (ao:∀x,x<n->Q (ar.getD x []))
  (D:∀x,x<n->U.sc x=(ar.getD x []).map λa=>(a.bM,a.To.toNat)) (G:∀x,x<n->U.ty x=ty.getD x 0):JI T Q sb U n [] [] par ty ar id (λ_=>0):=by
 subst q;refine⟨⟨qD _ _,λx l=>⟨x,l,JC l,rfl, .inl rfl⟩,λx l=>by rw[JC l];simp,λx l=>l,λx _=>rfl⟩,K,ha,w,ao,(λp q=>by cases q),λx l=> ?_,λx l p q=> ?_,(λp q=>by cases q),λC m L z=>⟨λx _=>rfl,λx l _=>⟨?_,λa h=> ?_⟩,(λp q=>by cases q)⟩⟩
 .rw[G x l];exact I (w x l).1 (w x l).2
 .rw[D x l] at q;obtain⟨a,h,rfl⟩:=aD.1 q;exact⟨a,h,rfl, .xC rfl⟩
 .rw[<-G x l];exact z.ty x l
 .exact z.ar x l (a.bM,a.To.toNat) (by rw[D x l];exact aD.2 ⟨a,h,rfl⟩)
def Can.ao {T F:Nat} {f:FSt} (h:Can T F f) {x:Node} (D:x∈f.az):AO F (f.az.length) x.cu:=by
 obtain⟨i,w⟩:=jJ.1 D;have l:i<f.az.length:=(bP.1 w).1;have q:f.az[i]=x:=(bP.1 w).2;have e:kY f i=Zb x:=by rw[vW l,q]
 refine⟨?_,λa ha=> ?_⟩
 .have:=h.Aj i;rw[e] at this;unfold Cn Zb at this;rw[kK] at this;exact this
 .have z:(a.bM,a.To.toNat)∈kY f i:=by rw[e];exact aD.2 ⟨a,ha,rfl⟩
  have G:=h.go.ft i l _ z;have I:=h.bd i l _ z;have K:=h.nn D ha;exact⟨G,K,by simp only at I;omega⟩
def Can.tyr {T F:Nat} {f:FSt} (h:Can T F f) {x:Node} (z:x∈f.az):0<=x.ee/\x.ee<(T:Int):=by
 obtain⟨i,w⟩:=jJ.1 z;have l:i<f.az.length:=(bP.1 w).1;have q:f.az[i]=x:=(bP.1 w).2;have:=h.go.tp i l;have e:(qe f).ty i=x.ee:=by show sU f i=_;rw[zO l,q]
 rwa[e] at this
def AO.sh {F n k N:Nat} {l:List cB} (h:AO F n l) (q:n+k<=N):AO F N (yA k l):=by
 refine⟨?_,λa ha=> ?_⟩
 .unfold DK yA;rw[kK];exact h.Aj
 .obtain⟨b,hb,rfl⟩:=aD.1 ha;have:=h.ok b hb;exact⟨this.1,by show 0<=b.To+(k:Int);omega,by show b.To+(k:Int)<(N:Int);omega⟩
def Xe {F n k:Nat} {l:List cB} (h:AO F n l):((yA k l).map λa=>(a.bM,a.To.toNat))=(l.map λa=>(a.bM,a.To.toNat)).map λp=>(p.1,p.2+k):=by
 unfold yA;rw[fk,fk];refine gR λa ha=> ?_
 have:=(h.ok a ha).2;show(a.bM,(a.To+(k:Int)).toNat)=(a.bM,a.To.toNat+k)
 congr 1;omega
def jY {q w:Type} {l:List q} {g:q->w} {i:Nat} {d:w} (h:i<l.length):(l.map g).getD i d=g l[i]:=by rw[bq,dP,aN h];rfl
def ze {q:Type} {l m:List q} {i:Nat} {d:q} (h:i<l.length):(l++m).getD i d=l.getD i d:=by rw[bq,bq,eX h]
def Di {q:Type} {l m:List q} {i:Nat} {d:q} (h:l.length<=i):(l++m).getD i d=m.getD (i-l.length) d:=by rw[bq,bq,fD h]
def Can.small {T F:Nat} {f:FSt} (h:Can T F f) (hn:f.az.length<=1000000) (hF:F<=1000000):∀x∈f.az,x.cu.length<=1000000/\∀a∈x.cu,0<=a.To/\a.To<=1000000:=λx l=>by have:=h.ao l;exact⟨eE this.len hF,λa ha=>by have:=(this.ok a ha).2;omega⟩
section
variable {h:aU} {T F:Nat} {sb:Int->Int->Prop} (H:HM h T sb) {A B:FSt} (hA:Can T F A) (hB:Can T F B) (hF:F<=400) (hn:A.az.length+B.az.length<=1000000)
include H hA hB hF hn
theorem XR:JI T (AO F (A.az.length+B.az.length)) sb (qZ A B) (A.az.length+B.az.length) [] [] (ids 0 (A.az.length)++ids (A.az.length) (B.az.length)) (A.az.map (·.ee)++B.az.map (·.ee)) ((A.az.map λx=>yA 0 x.cu)++B.az.map λx=>yA (A.az.length) x.cu) id (λ_=>0):=by
 have I:ids 0 (A.az.length)++ids (A.az.length) (B.az.length)=ids 0 (A.az.length+B.az.length):=by have:=HW 0 (A.az.length) (B.az.length);rwa[eN] at this
 have D:∀x,(q:x<A.az.length)->((A.az.map λx=>yA 0 x.cu)++B.az.map λx=>yA (A.az.length) x.cu).getD x []=yA 0 A.az[x].cu:=λx q=>by rw[ze (by simpa using q),jY q]
 have G:∀x,(q:x<A.az.length+B.az.length)->(l:¬x<A.az.length)->((A.az.map λx=>yA 0 x.cu)++B.az.map λx=>yA (A.az.length) x.cu).getD x []=yA (A.az.length) (B.az[x-A.az.length]'(by omega)).cu:=λx q l=>by
  rw[Di aH]
  have:x-(A.az.map λx=>yA 0 x.cu).length=x-A.az.length:=ai
  rw[this,jY af]
 have w:∀x,(q:x<A.az.length)->(A.az.map (·.ee)++B.az.map (·.ee)).getD x 0=A.az[x].ee:=λx q=>by rw[ze (by simpa using q),jY q]
 have z:∀x,(q:x<A.az.length+B.az.length)->(l:¬x<A.az.length)->(A.az.map (·.ee)++B.az.map (·.ee)).getD x 0=(B.az[x-A.az.length]'(by omega)).ee:=λx q l=>by
  rw[Di aH]
  have:x-(A.az.map (·.ee)).length=x-A.az.length:=ai
  rw[this,jY af]
 refine JI.init H.to.refl I ai ai (λx q=> ?_) (λx q=> ?_) (λx q=> ?_) (λx q=> ?_)<;>by_cases l:x<A.az.length
 .rw[w x l];exact hA.tyr (cG l)
 .rw[z x q l];exact hB.tyr (cG _)
 .rw[D x l];exact(hA.ao (cG l)).sh af
 .rw[G x q l];exact(hB.ao (cG _)).sh af
 .rw[D x l,Xe (hA.ao (cG l)),(AN l).1,vW l];exact(pT _).symm
 .rw[G x q l,Xe (hB.ao (cG _)),(AP l).1,vW af];rfl
 .rw[w x l,(AN l).2,zO l]
 .rw[z x q l,(AP l).2,zO af]
theorem c433:(∃f,f433 h A B=some (f,true)/\Zq T F sb A B f)\/(f433 h A B=some (⟨[]⟩,false)/\∀C,Can T F C->Le sb A C->Le sb B C->False):=by
 have D:f442 A.az h.Types h.bN [] [] []=some ((),ids 0 (A.az.length),A.az.map (·.ee),A.az.map λx=>yA 0 x.cu):=by rw[ZH (fr:=0) rfl rfl rfl af (hA.small af af)];simp
 have G:f442 B.az h.Types h.bN (ids 0 (A.az.length)) (A.az.map (·.ee)) (A.az.map λx=>yA 0 x.cu)=some ((),ids 0 (A.az.length)++ids (A.az.length) (B.az.length),A.az.map (·.ee)++B.az.map (·.ee),(A.az.map λx=>yA 0 x.cu)++B.az.map λx=>yA (A.az.length) x.cu):=
  ZH (fr:=A.az.length) (qD _ _) ai ai hn (hB.small af af)
 have q:(A.az.length+B.az.length) *F<=400000000:=by have:=nU hn hF;omega
 have I:0<A.az.length+B.az.length:=by have:=hA.ne;omega
 have l:A.az.length<A.az.length+B.az.length:=by have:=hB.ne;omega
 rcases c443 H af I l q (XR H hA hB hF hn) with⟨par,ty,ar,rep,d,z,J⟩|⟨⟨par,ty,ar,z⟩,w⟩
 .obtain⟨L,g⟩:=c444 (TL:=h.Types) (FL:=h.bN) (d:=d) J.la J.lt J.ao J.pi.rl J.pi.rr af hn I J.pi;refine .inl ⟨_,e433 ?_,Qu H.to hA hB (J.uni (both_go hA hB).bd)⟩;rw[D,cO,G,cO];have e:(0:Int)=((0:Nat):Int):=rfl;rw[e,z,cO,cond_neg (by rfl),g,cO]
 .refine .inr ⟨e433 ?_,λC K N O=> ?_⟩
  .rw[D,cO,G,cO];have e:(0:Int)=((0:Nat):Int):=rfl;rw[e,z,cO,cond_pos (by rfl)]
  .obtain⟨m,_,P⟩:=I5 hA hB K N O;exact w (qe C) m K.Qd P
end
