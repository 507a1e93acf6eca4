/- Unification by the least closed relation (the reference's). -/
import Derived.Test.YtbnlhmaaccgbjaaGreatDoorClXh
set_option linter.all false
open Go.IntKind (wrap)
open List (replicate)
namespace Go.Proofs.YtbnlhmaaccgbjaaGreatDoor.cl.pf
open Go Go.AM
def PX (k:Nat) (x:Node):Node:=⟨x.dU,yS k x.cu⟩
def h448_7 {a b:List Node} {i:Nat} {x:Node} (w:b[i]? =some x) {t:Int} {o:List Node} {I:List cD} (K:a.length<=1000000) (N:o.length<=100000000) (L:x.cu.length<=1000000) (z:∀c∈x.cu,0<=c.To/\c.To<=1000000) {res:List Node}:
  ∀(xs:List cD) (k:Nat),x.cu.drop k=xs->LN a b (wrap .i64 ((i:Int)+1)) (o++[⟨t,yS a.length x.cu⟩])=some res->
   Qv a b (i:Int) (k:Int) t o I (yS a.length (x.cu.take k))=some res:=by
 intro xs;induction xs with
 |nil=>intro k q D;refine acU ?_;rw[iX w,bq q,az,cC _ af ai af,jY (mT q)];omega
 |cons c xs G=>
  intro k q D;refine acU ?_;have hc:=z c (aZ (bZ q));rw[iX w,aV q,ak,iX w,aM q,iX w,aM q,cC _ (by grind[yS]) ai af,aR q af,oy af af];have e:yS a.length (x.cu.take k)++[⟨c.bN,c.To+(a.length)⟩]=yS a.length (x.cu.take (k+1)):=by rw[de,bZ q];simp[yS]
  rw[e];exact G _ (aI q) D
def h448 {a b:List Node} (hn:a.length+b.length<=1000000) (z:∀x∈b,x.cu.length<=1000000/\∀c∈x.cu,0<=c.To/\c.To<=1000000):∀(xs:List Node) (i:Nat) (o:List Node),b.drop i=xs->o.length<=a.length+i->LN a b (i:Int) o=some (o++xs.map (PX a.length)):=by intro xs;induction xs with
 |nil=>intro i o q _;refine acT ?_;grind
 |cons x xs G=>intro i o q I;have w:=z x (aZ (bZ q));have D:=eF q;refine acT ?_;rw[aV q,ak,aM q];refine h448_7 (bZ q) af af w.1 w.2 _ 0 rfl ?_;rw[aR q af,G _ _ (aI q) aH];simp[PX]
def c448 {a b:List Node} (hn:a.length+b.length<=1000000) (q:∀x∈b,x.cu.length<=1000000/\∀c∈x.cu,0<=c.To/\c.To<=1000000):f448 a b=some (a++b.map (PX a.length)):=by refine e448 ?_;rw[cC _ ai af af];exact h448 hn q b 0 a rfl af
def c449 {n:Nat} (hn:n<=1000000):f449 (n:Int)=some (ids 0 n):=by
 have key:∀(k i),n=i+k->Qw (n) (i) (ids 0 i)=some (ids 0 n):=by intro k;induction k with
  |zero=>simp_all[acV]
  |succ k w=>
   intro i q;refine acV ?_;have e:ids 0 i++[(i:Int)]=ids 0 (i+1):=by have:=IL 0 i 1;rw[eO] at this;rw[<-this];rfl
   rw[cC _ (by rw[qH];omega) ai af,bP af];grind
 exact e449 (key n 0 af)
def NJ (low high:Int) (l:List Int):List Int:=l.map λx=>if x=high then low else x
def h450 {low high:Int}:∀(xs done:List Int),done.length+xs.length<=1000000->LO low high (done.length:Int) (done++xs)=some (done++NJ low high xs):=by intro xs;induction xs with
 |nil=>intro done _;refine acW ?_;rw[cond_neg ai];rfl
 |cons x xs D=>
  intro done w;refine acW ?_;have q:∀{R:Type} (k:Int->Option R),eG (done++x::xs) done.length k=k x:=λk=>lB ai k
  have z:done++NJ low high (x::xs)=(done++[if x=high then low else x])++NJ low high xs:=by simp[NJ]
  rw[cond_pos (by grind),Bv ai,bg,bP af];by_cases e:x=high
  .rw[bU ⟨af,ai⟩];grind
  grind
structure AW (F n:Nat) (l:List cD):Prop where
 nd:(l.map (·.bN)).Nodup
 ok:∀a∈l,(0<=a.bN/\a.bN<(F:Int))/\0<=a.To/\a.To<(n:Int)
def F9.nd {l:List cD} (h:F9 l):(l.map (·.bN)).Nodup:=by unfold List.Nodup;rw[kO];exact h.imp λh=>by omega
def AO.aw {F n:Nat} {l:List cD} (h:AO F n l):AW F n l:=⟨h.Ay.nd,h.ok⟩
def AW.NQ {F n:Nat} {l:List cD} (h:AW F n l):AO F n (NQ l):=⟨Yr h.nd,λa q=>h.ok a ((xx l).2.2 a|>.1 q)⟩
def AW.len {F n:Nat} {l:List cD} (h:AW F n l):l.length<=F:=by have:=h.NQ.len;rwa[(xx l).2.1] at this
def nd_uniq {l:List cD} (h:(l.map (·.bN)).Nodup) {a b:cD} (q:a∈l) (w:b∈l) (e:a.bN=b.bN):a=b:=by induction l with
 |nil=>cases q
 |cons x l z=>grind
def fa (l:List cD) (f:Int):Option cD:=l.find? λa=>a.bN==f
def IJ {l:List cD} {f:Int} {a:cD} (h:fa l f=some a):a∈l/\a.bN=f:=by have q:=nR h;have w:=p6 h;simp_all
def Xh {l:List cD} {f:Int} (h:fa l f=none):∀a∈l,a.bN≠f:=λa q e=>by have:=za.1 h a q;simp_all
def fr (l:List cD) (f:Int):Int×Bool:=match fa l f with
 |some a=>(a.To,true)
 |none=>(0,false)
def Xk (x:cD) (l:List cD) (f:Int):fr (x::l) f=if x.bN=f then(x.To,true) else fr l f:=by unfold fr fa;grind
def c491 {l:List cD} {f:Int} (z:l.length<=1000000):f491 l f=some (fr l f):=by
 have key:∀(xs) (i),l.drop i=xs->QA l f (i)=some (fr xs f):=by intro xs;induction xs with
  |nil=>intro i q;refine ac4 ?_;rw[bq q];rfl
  |cons x xs w=>intro i q;refine ac4 ?_;rw[aV q,aM q,aM q,aR q af,w _ (aI q),Xk];grind
 exact e491 (key l 0 rfl)
def c476 {f:FSt} {c:Nat} {x:Node} (w:f.aA[c]? =some x) {Mo:Int} (D:x.cu.length<=1000000):f476 f (c:Int) Mo=some (fr x.cu Mo):=by
 have key:∀(xs) (i),x.cu.drop i=xs->Qy Mo x.cu (i)=some (fr xs Mo):=by intro xs;induction xs with
  |nil=>intro i q;refine ac1 ?_;rw[bq q];rfl
  |cons x xs z=>intro i q;refine ac1 ?_;rw[aV q,aM q,aM q,aR q af,z _ (aI q),Xk];grind
 refine e476 ?_;rw[iX w];grind
def rm (q w:List cD):List cD×List dF:=(q++w.filter λh=>(fa q h.bN).isNone,w.filterMap λh=>(fa q h.bN).map λa=>⟨a.To,h.To⟩)
def rm_ok (w G:List cD):MG w G (rm w G):=by
 refine⟨λa q=> ?_,λa q=>cR _ q,λa q=> ?_,λp K=> ?_,Eg _ _⟩
 .exact(bu.1 q).imp id λh=>(c4.1 h).1
 .cases e:fa _ _ with
  |none=>exact⟨a,gD _ (c4.2 ⟨q,by rw[e];rfl⟩),rfl, .inl rfl⟩
  |some b=>obtain⟨z,D⟩:=IJ e;exact⟨b,cR _ z,D, .inr (fk.2 ⟨a,q,by rw[e];rfl⟩)⟩
 .obtain⟨h,L,e⟩:=fk.1 K;cases I:fa w h.bN with
  |none=>simp_all
  |some b=>obtain⟨z,D⟩:=IJ I;grind
def rm_aw {F n:Nat} {q G:List cD} (w:AW F n q) (z:AW F n G):AW F n (rm q G).1:=by
 refine⟨?_,λa D=>((rm_ok _ _).sub a D).elim (w.ok a) (z.ok a)⟩;show((q++_).map _).Nodup;rw[cn,iI];refine⟨w.nd,?_,λx I y K e=> ?_⟩
 .exact(zi.map _).nodup z.nd
 .obtain⟨a,D,rfl⟩:=aD.1 I;obtain⟨b,L,rfl⟩:=aD.1 K;simp_all[fa]
section
variable {n:Nat} {out:List Int} {ar:List (List cD)}
def h451_23 {i:Nat} {D I:Nat} (G:D<ar.length) (z:I<ar.length) (K:(ar.getD D []).length<=1000000) (P:(ar.getD I []).length<=1000000) {res:List Int}:∀(xs:List cD) (k:Nat) (q:List dF) (both:List cD),(ar.getD I []).drop k=xs->q.length+xs.length<=1000000000->both.length+xs.length<=2000000->
  tD (wrap .i64 ((i:Int)+1)) (q++xs.filterMap λh=>(fa (ar.getD D []) h.bN).map λa=>⟨a.To,h.To⟩) out (ar.set D (both++xs.filter λh=>(fa (ar.getD D []) h.bN).isNone))=some res->
  FM (i:Int) (D:Int) (I:Int) (k:Int) q out ar both=some res:=by
 intro xs;induction xs with
 |nil=>intro k q both w _ _ Q;refine XO ?_;rw[rdL z,bq w,rdL G];simp_all
 |cons x xs L=>intro k q both w N O Q;simp at N O;refine XO ?_;rw[rdL z,aV w,ak,rdL z,aM w,rdL G,c491 K,aj,aR w af];unfold fr;cases e:fa _ _ with
  |none=>rw[cond_neg (by rfl),cC _ af ai af];refine L _ _ _ (aI w) af aH ?_;simp_all
  |some a=>rw[cond_pos (by rfl),cC _ af ai af];refine L _ _ _ (aI w) aH af ?_;simp_all
def h451_17 {i:Nat} {w q:Nat} {todo:List dF} (z:w<ar.length) (D:q<ar.length) (G:(ar.getD w []).length<=1000000) (I:(ar.getD q []).length<=1000000) (P:todo.length<=500000000) {res:List Int}:∀(xs done:List Int),done.length+xs.length<=1000000->
  tD (wrap .i64 ((i:Int)+1)) (todo++(rm (ar.getD w []) (ar.getD q [])).2) (done++NJ w q xs) (ar.set w (rm (ar.getD w []) (ar.getD q [])).1)=some res->
  Ag (i:Int) (w:Int) (q:Int) (done.length:Int) todo (done++xs) ar=some res:=by
 intro xs;induction xs with
 |nil=>intro done K L;refine XN ?_;rw[cond_neg ai,rdL z,cC _ ai af af,dK];exact h451_23 z D G I (ar.getD q []) 0 todo _ rfl af af L
 |cons x xs Q=>
  intro done K L;simp at K;refine XN ?_;have N:∀{R:Type} (k:Int->Option R),eG (done++x::xs) done.length k=k x:=λk=>lB ai k
  have O:done++NJ w q (x::xs)=(done++[if x=(q) then(w:Int) else x])++NJ w q xs:=by simp[NJ]
  rw[cond_pos (by grind),Bv ai,bg,N,bP af];by_cases e:x=(q)
  .rw[bU ⟨af,ai⟩];grind
  grind
end
def PI.xU {n:Nat} {out:List Int} {rep:Nat->Nat} (w:out.length=n) (z:∀x,x<n->out.getD x 0=(rep x:Nat)) (rl:∀x,x<n->rep x<n) (rr:∀x,x<n->rep (rep x)=rep x):PI n out rep (λx=>if rep x=x then 0 else 1):=by
 refine⟨w,λx q=>⟨_,rl x q,z x q,rr x q,?_⟩,λx q=> ?_,rl,rr⟩
 .grind
 grind
def Yl {low high:Int} {l:List Int} {x:Nat} (q:x<l.length):(NJ low high l).getD x 0=if l.getD x 0=high then low else l.getD x 0:=by simp_all[NJ]
abbrev sbT:Int->Int->Prop:=λ_ _=>True
def h451_11 {F n:Nat} {U:Gr} {W:List (Nat×Nat)} {ty:List Int} (hn:n<=1000000) (hF:F<=1000000):∀(c k i:Nat) (w:List dF) (out:List Int) (ar:List (List cD)) (rep d:Nat->Nat),
  cnt n rep<=c->w.length-i<=k->i<=w.length->w.length+cnt n rep *F<=400000000->(∀x,x<n->out.getD x 0=(rep x:Nat))->JI 1 (AW F n) sbT U n W (w.drop i) out ty ar rep d->
  ∃z G D O,tD (i:Int) w out ar=some z/\(∀x,x<n->z.getD x 0=(D x:Nat))/\∃ty',JI 1 (AW F n) sbT U n W [] z ty' G D O:=by
 intro c;induction c using Nat.strongRecOn generalizing ty with
 |ind c ihc=>
 intro k;induction k with
 |zero=>intro i w out ar rep d hc hk hi hb S J;have e:i=w.length:=af;subst e;rw[rI] at J;exact⟨out,ar,rep,d,XM (by rw[cond_neg (by rw[aT];omega)]),S,ty,J⟩
 |succ k ihk=>
  intro i w out ar rep d hc hk hi hb S J;by_cases hlt:i<w.length
  .have hd:w.drop i=w[i]::w.drop (i+1):=iJ hlt;generalize hp:w[i]=p at hd;have J:=J.mem (wt':=w.drop (i+1)++[p]) (λq=>by grind);obtain⟨⟨p1,p2⟩,p3,p4⟩:=J.wo p ai;obtain⟨I,hx0⟩:=gm p1;obtain⟨K,hx1⟩:=gm p3;have L:I<n:=af;have N:K<n:=af;have r0:p.a0.toNat=I:=af;have r1:p.a1.toNat=K:=af;have hol:out.length=n:=J.pi.len;have hg:∀{R:Type} (kk:dF->Option R),check (0<=(i:Int)/\Int.toNat (i:Int)<w.length) (eG w (Int.toNat (i:Int)) kk)=kk p:=λkk=>by
    rw[Bv hlt,bg,tf hlt,hp]
   have step:∀(r:List Int),(bif((if((rep K:Nat):Int)<((rep I:Nat):Int) then((rep K:Nat):Int) else((rep I:Nat):Int))==(if((rep K:Nat):Int)>((rep I:Nat):Int) then((rep K:Nat):Int) else((rep I:Nat):Int))) then tD ((i+1:Nat):Int) w out ar
     else Ag (i:Int) (if((rep K:Nat):Int)<((rep I:Nat):Int) then((rep K:Nat):Int) else((rep I:Nat):Int)) (if((rep K:Nat):Int)>((rep I:Nat):Int) then((rep K:Nat):Int) else((rep I:Nat):Int)) 0 w out ar)=some r->tD (i:Int) w out ar=some r:=by
    intro r hr;refine XM ?_;rw[cond_pos (by rw[bB];omega),hg,hx0,tT af,S I L,hg,hx1,tT af,S K N,hg,hx0,tT af,S I L,hg,hx1,tT af,S K N,bP af];exact hr
   by_cases P:rep I=rep K
   .have J3:=J.skip (by rw[r0,r1];exact P);obtain⟨z,G,D,O,g1,g2,g3⟩:=ihk (i+1) w out ar rep d hc af af hb S J3;exact⟨z,G,D,O,step _ (by rw[P,cond_pos ai];exact g1),g2,g3⟩
   ·
    have fin:∀(a b:Nat),a≠b->a<n->b<n->∀(q:dF),rep q.a0.toNat=a->rep q.a1.toNat=b->JI 1 (AW F n) sbT U n W (w.drop (i+1)++[q]) out ty ar rep d->
      ∃z G D O,Ag (i:Int) (a:Int) (b:Int) 0 w out ar=some z/\(∀x,x<n->z.getD x 0=(D x:Nat))/\∃ty',JI 1 (AW F n) sbT U n W [] z ty' G D O:=by
     intro a b hab V hbn q hqa hqb Q;have hal:a<ar.length:=by rw[Q.la];exact V
     have hbl:b<ar.length:=by rw[Q.la];exact hbn
     have la:=(Q.ao _ V).len;have lb:=(Q.ao _ hbn).len;have M:=rm_ok (ar.getD a []) (ar.getD b []);have Jm:=Q.merge hqa hqb hab (λl hl c hc=>(hl.ok c hc).2) (λ_ _=>trivial) M (rm_aw (Q.ao _ V) (Q.ao _ hbn)) (t:=0) ⟨af,af⟩ trivial trivial (λ_ _ _=>trivial);have hcm:=MU Q hqa hqb hab;have ho':∀x,x<n->(NJ a b out).getD x 0=(((λx=>if rep x=b then a else rep x) x:Nat):Int):=λx hx=>by
      rw[Yl af,S x hx];show _=(((if rep x=b then a else rep x):Nat):Int)
      by_cases e:rep x=b
      .rw[aB af,aB e]
      .rw[au af,au e]
     have J3:=Jm.qG (PI.xU (out:=NJ a b out) (by unfold NJ;rw[bz];exact hol) ho' Jm.pi.rl Jm.pi.rr);have hmul:(cnt n (λx=>if rep x=b then a else rep x)+1) *F<=cnt n rep *F:=jV F hcm;rw[ny] at hmul;have hml:=M.le;have e3:w.drop (i+1)++(rm (ar.getD a []) (ar.getD b [])).2=(w++(rm (ar.getD a []) (ar.getD b [])).2).drop (i+1):=by grind
     rw[e3] at J3;obtain⟨z,G,D,O,g1,g2,g3⟩:=ihc _ (e8 (Nat.lt_of_succ_le hcm) hc) (w++(rm (ar.getD a []) (ar.getD b [])).2).length (i+1) (w++(rm (ar.getD a []) (ar.getD b [])).2) _ _ _ _ (aU _) af (by grind) (by grind) ho' J3;refine⟨z,G,D,O,?_,g2,g3⟩;have:=h451_17 (i:=i) (todo:=w) (ar:=ar) (res:=z) hal hbl af af af out [] aH (by rw[bP af,dK];omega);exact this
    by_cases hlt2:rep K<rep I
    .obtain⟨z,G,D,O,g1,g2,g3⟩:=fin (rep K) (rep I) (λe=>P e.symm) (J.pi.rl _ N) (J.pi.rl _ L) ⟨p.a1,p.a0⟩ (by show rep p.a1.toNat=_;rw[r1]) (by show rep p.a0.toNat=_;rw[r0]) J.swap;refine⟨_,_,_,O,step _ ?_,g2,g3⟩;have e1:(if((rep K):Int)<((rep I)) then((rep K):Int) else((rep I)))=((rep _)):=aB af;have e2:(if((rep K):Int)>((rep I)) then((rep K):Int) else((rep I)))=((rep _)):=au af;rw[e1,e2,cond_neg (by rw[kN];omega)];exact g1
    .obtain⟨z,G,D,O,g1,g2,g3⟩:=fin _ _ P (J.pi.rl _ L) (J.pi.rl _ N) p (by rw[r0]) (by rw[r1]) J;grind
  grind
def h451_5 {l:List Node} {q a:Nat} (Q:l.length<=1000000) (L:q<=a) (K:a<l.length) {out:List Int} {res:List Int} (O:tD 0 (if q=a then[] else[⟨a,q⟩]) out (l.map (·.cu))=some res):
  ∀(k i:Nat),l.length=i+k->LP l (NJ q a (ids 0 l.length)) (i:Int) (if a<i then(if q=a then[] else[⟨a,q⟩]) else[]) out ((l.take i).map (·.cu)++replicate k [])=some res:=by
 intro k;induction k with
 |zero=>intro i N;refine acX ?_;have e:i=l.length:=af;subst e;rw[cond_neg (by rw[aT];omega),aB K,gp,zm,dP];exact O
 |succ k P=>
  intro i N;have w:i<l.length:=af;refine acX ?_;have hcl:i<(NJ (q:Int) (a:Int) (ids 0 l.length)).length:=by unfold NJ;rw[bz,qH];exact w
  have G:(NJ (q:Int) (a:Int) (ids 0 l.length)).getD i default=if i=a then(q:Int) else(i:Int):=by
   show List.getD _ _ 0=_;rw[Yl (by rw[qH];exact w),Km w];by_cases e:i=a
   .rw[aB af,aB e]
   .rw[au af,au e]
  have D:i<((l.take i).map (·.cu)++replicate (k+1) ([]:List cD)).length:=aH;have I:((l.take i).map (·.cu)++replicate (k+1) ([]:List cD)).set i l[i].cu=(l.take (i+1)).map (·.cu)++replicate k []:=by
   rw[pV _ _ aH,de,aK w]
   have:i-((l.take i).map (·.cu)).length=0:=aH
   rw[this,q7,rX,cn];simp
  rw[cond_pos (by rw[bB];omega),cO w,rdL D,vi hcl,G,bg,I,bP af];have:=P (i+1) af;by_cases e:i=a
  .subst e;rw[aB af] at this;rw[aB rfl,au (rR _)];by_cases z:q=i
   .rw[cond_neg (by simp[z])];rw[aB z] at this;exact this
   .rw[cond_pos (by rw[nP];omega),vi hcl,G,aB rfl,cC _ ai ai af];rw[au z] at this;exact this
  .rw[au e,cond_neg ai];have z:(if a<i+1 then(if q=a then[] else[(⟨(a:Int),(q:Int)⟩:dF)]) else[])=if a<i then(if q=a then[] else[⟨(a:Int),(q:Int)⟩]) else[]:=by
    by_cases h:a<i
    .rw[aB h,aB af]
    .rw[au h,au af]
   rw[z] at this;exact this
def lG (l:List Node):Gr:=⟨λx=>((l.map (·.cu)).getD x []).map λa=>(a.bN,a.To.toNat),λx=>(l.map (·.dU)).getD x 0⟩
def lG0 (l:List Node):Gr:=⟨(lG l).sc,λ_=>0⟩
def c451 {F:Nat} {l:List Node} {lo a:Nat} (z:l.length<=1000000) (hF:F<=100000) (R:l.length *F<=300000000) (w:lo<=a) (G:a<l.length) (hA:∀x∈l,AW F l.length x.cu):
  ∃out ty ar rep d,f451 l (NJ lo a (ids 0 l.length))=some out/\(∀x,x<l.length->out.getD x 0=(rep x:Nat))/\JI 1 (AW F l.length) sbT (lG0 l) l.length [(lo,a)] [] out ty ar rep d:=by
 have K:JI 1 (AW F l.length) sbT (lG0 l) l.length [] [] (ids 0 l.length) (replicate l.length 0) (l.map (·.cu)) id (λ_=>0):=by
  have I:∀x,x<l.length->(replicate l.length (0:Int)).getD x 0=0:=λx q=>by rw[bC,qa,aB q];rfl
  refine JI.init (λ_ _=>trivial) rfl ai ai (λx q=> ?_) (λx q=> ?_) (λx q=>rfl) (λx q=>(I x q).symm)
  .rw[I x q];omega
  .rw[j9 q];exact hA _ (cG q)
 have L:=K.start (a:=lo) (b:=a) af G;have D:=JI.swap (wt:=[]) L;have N:JI 1 (AW F l.length) sbT (lG0 l) l.length [(lo,a)] (if lo=a then[] else[⟨(a:Int),(lo:Int)⟩]) (ids 0 l.length) (replicate l.length 0) (l.map (·.cu)) id (λ_=>0):=by
  by_cases e:lo=a
  .rw[aB e];exact JI.skip D (by simp[e])
  .rw[au e];exact D
 have hc:=aba l.length id;have S:cnt l.length id *F<=l.length *F:=jV F hc;have U:(if lo=a then[] else[(⟨(a:Int),(lo:Int)⟩:dF)]).length<=1:=by split<;>simp
 obtain⟨out,ar,rep,d,O,P,ty,Q⟩:=h451_11 z af (cnt l.length id) 1 0 (if lo=a then[] else[⟨(a:Int),(lo:Int)⟩]) (ids 0 l.length) (l.map (·.cu)) id _ (aU _) af af af (λx q=>Km q) N;refine⟨out,ty,ar,rep,d,?_,P,Q⟩;refine e451 ?_;rw[c449 z,aj,bU ⟨af,by omega,by omega,af⟩,bg];have:=h451_5 z w G O l.length 0 af;rw[au af,List.take_zero,di,dK] at this;exact this
def c450 {n x y:Nat} (hn:n<=1000000) (D:x<n) (G:y<n):f450 (ids 0 n) x y=some (NJ (min x y:Nat) (max x y:Nat) (ids 0 n)):=by
 have q:∀{R:Type} {z:Nat} (w:Int->Option R),z<n->bA (ids 0 n) (z:Int) w=w z:=λw I=>by rw[vi (by rw[qH];exact I)];exact aP w (Km I)
 refine e450 ?_;rw[q _ D,q _ G,q _ D,q _ G,cC _ ai (by rw[qH];omega) af,dK];have e1:(if(y:Int)<(x:Int) then(y:Int) else(x:Int))=((min x y:Nat):Int):=by split<;>omega
 have K:(if(y:Int)>(x:Int) then(y:Int) else(x:Int))=((max x y:Nat):Int):=by split<;>omega
 rw[e1,K];exact h450 (ids 0 n) [] (by rw[qH];simp;omega)
end Go.Proofs.YtbnlhmaaccgbjaaGreatDoor.cl.pf
namespace Go.Proofs.YtbnlhmaaccgbjaaGreatDoor.cl.pf
open Go Go.AM
section
variable {h:aN} {T:Nat} {sb:Int->Int->Prop} (H:HM h T sb) {l:List Node} (hn:l.length<=1000000) (Vq:∀x∈l,0<=x.dU/\x.dU<(T:Int)) (vk:0<T)
variable {cl:List Int} {rep:Nat->Nat} (hcl:cl.length=l.length) (hc:∀x,x<l.length->cl.getD x 0=(rep x:Nat)) (rl:∀x,x<l.length->rep x<l.length) (rr:∀x,x<l.length->rep (rep x)=rep x)
structure TI (T:Nat) (sb:Int->Int->Prop) (l:List Node) (rep:Nat->Nat) (i:Nat) (tl:List Int):Prop where
 len:tl.length=l.length
 ok:∀c,c<l.length->rep c=c->(0<=tl.getD c 0/\tl.getD c 0<(T:Int))/\(∀x,x<i->rep x=c->sb ((lG l).ty x) (tl.getD c 0))/\∀u,0<=u->u<(T:Int)->(∀x,x<i->rep x=c->sb ((lG l).ty x) u)->sb (tl.getD c 0) u
theorem SQ {x:Nat} (q:x<l.length):(lG l).ty x=l[x].dU:=j9 _
theorem Nh {x:Nat} (q:x<l.length):(lG l).sc x=l[x].cu.map λa=>(a.bN,a.To.toNat):=by show List.map _ _=_;simp_all
include H hn Vq hcl hc rl rr
theorem h452_3:∀(k i:Nat) (tl:List Int),l.length=i+k->TI T sb l rep i tl->
  (∃G,TI T sb l rep l.length G/\∀res,FN l cl 0 G=some res->B7 l cl (i:Int) h tl=some res)\/
  (B7 l cl (i:Int) h tl=some ([],false)/\∃c,c<l.length/\∀u,0<=u->u<(T:Int)->(∀x,x<l.length->rep x=c->sb ((lG l).ty x) u)->False):=by
 intro k;induction k with
 |zero=>intro i tl hi I;have e:i=l.length:=af;subst e;refine .inl ⟨tl,I,λres hr=>Vy ?_⟩;grind
 |succ k ih=>
  intro i tl hi I;have q:i<l.length:=af;have K:=rl i q;have Q:∀{R:Type} (L:Int->Option R),bA cl (i:Int) L=L ((rep i:Nat):Int):=λL=>by rw[vi af];exact aP L (hc i q)
  obtain⟨o1,o2,o3⟩:=I.ok (rep i) K (rr i q);have ZF:=Vq _ (cG q);have O:=SQ q;rcases H.mt _ _ o1.1 o1.2 ZF.1 ZF.2 with⟨t,_,U,V,m4,m5⟩|⟨t,_,U,V⟩
  .have I2:TI T sb l rep (i+1) (tl.set (rep i) t):=by
    refine⟨by rw[jg];exact I.len,λc hcl P=> ?_⟩;rw[fF];by_cases e:rep i=c
    .subst e;rw[aB ⟨rfl,by rw[I.len];omega⟩];refine⟨H.to.rr V,λx hx w=> ?_,λu z D S=> ?_⟩
     .by_cases N:x=i
      .subst N;rw[O];exact m4
      .exact H.to.trans (o2 x af w) V
     grind
    .rw[au (λh=>e h.1)];obtain⟨q1,q2,q3⟩:=I.ok c hcl P;refine⟨q1,λx hx w=> ?_,λu z D S=>q3 u z D λx hx w=>S x af w⟩;by_cases N:x=i
     .subst N;exact absurd w e
     .exact q2 x af w
   have step:∀r,B7 l cl ((i+1)) h (tl.set (rep i) t)=some r->B7 l cl (i) h tl=some r:=by intro r hr;refine Vy ?_;rw[cond_pos (by grind),Q,tT (by rw[I.len];omega),cO q,U,aj,cond_neg (by rfl),Q,tT (by rw[I.len];omega),bP af];exact hr
   rcases ih _ _ af I2 with⟨G,g1,g2⟩|⟨g1,g2⟩
   .grind
   simp_all
  .refine .inr ⟨Vy ?_,_,K,λu z D S=> ?_⟩
   .rw[cond_pos (by grind),Q,tT (by rw[I.len];omega),cO q,U,aj,cond_pos (by rfl)]
   grind
omit H Vq in
theorem h452_10 {tl:List Int} (hl:tl.length=l.length):∀(k i:Nat) (s:List Int),l.length=i+k->s.length=l.length->(∀x,x<l.length->s.getD x 0=if x<i then tl.getD (rep x) 0 else tl.getD x 0)->
  ∃z,FN l cl (i:Int) s=some (z,true)/\z.length=l.length/\∀x,x<l.length->z.getD x 0=tl.getD (rep x) 0:=by
 intro k;induction k with
 |zero=>
  intro i s S K D;refine⟨s,XP ?_,K,λx w=> ?_⟩
  .rw[cond_neg (by rw[aT];omega)]
  .rw[D x w,aB af]
 |succ k V=>
  intro i s S K D;have q:i<l.length:=af;have I:=rl i q;have Q:∀{R:Type} (G:Int->Option R),bA cl (i:Int) G=G ((rep i:Nat):Int):=λG=>by rw[vi af];exact aP G (hc i q)
  have U:s.getD (rep i) 0=tl.getD (rep i) 0:=by rw[D _ I,rr i q];split<;>rfl
  obtain⟨z,N,O,P⟩:=V (i+1) (s.set i (tl.getD (rep i) 0)) af (by rw[jg];exact K) λx w=>by
   rw[fF];by_cases e:i=x
   .subst e;rw[aB ⟨rfl,af⟩,aB af]
   .rw[au (λh=>e h.1),D x w];by_cases L:x<i
    .rw[aB L,aB af]
    .rw[au L,au af]
  refine⟨z,XP ?_,O,P⟩;rw[cond_pos (by rw[bB];omega),Q,tT af,U,tT af,bg,bP af];exact N
include vk in
theorem c452:(∃s,f452 h l cl=some (s,true)/\s.length=l.length/\∀c,c<l.length->(0<=s.getD c 0/\s.getD c 0<(T:Int))/\s.getD c 0=s.getD (rep c) 0/\sb ((lG l).ty c) (s.getD c 0)/\∀u,0<=u->u<(T:Int)->(∀x,x<l.length->rep x=rep c->sb ((lG l).ty x) u)->sb (s.getD c 0) u)\/
  (f452 h l cl=some ([],false)/\∃c,c<l.length/\∀u,0<=u->u<(T:Int)->(∀x,x<l.length->rep x=c->sb ((lG l).ty x) u)->False):=by
 have P:∀x,x<l.length->(replicate l.length (0:Int)).getD x 0=0:=λx z=>by rw[bC,qa,aB z];rfl
 have G:TI T sb l rep 0 (replicate l.length 0):=⟨ai,λc hcl N=>by
  rw[P c hcl]
  exact⟨⟨af,af⟩,λx z=>absurd z af,λu K L _=>H.to.top K L⟩⟩
 have pre:∀r,B7 l cl 0 h (replicate l.length 0)=some r->f452 h l cl=some r:=λr O=>by refine e452 ?_;rw[bU ⟨af,by omega,by omega,af⟩,bg];exact O
 rcases h452_3 H hn Vq hcl hc rl rr l.length 0 _ af G with⟨tl,I,g⟩|⟨q,w⟩
 .obtain⟨s,q,w,D⟩:=h452_10 hn hcl hc rl rr I.len l.length 0 tl af I.len (λx _=>by rw[au af]);refine .inl ⟨s,pre _ (g _ q),w,λc hcl=> ?_⟩;obtain⟨Q,R,S⟩:=I.ok (rep c) (rl c hcl) (rr c hcl);rw[D c hcl,D _ (rl c hcl),rr c hcl];exact⟨Q,rfl,R c hcl rfl,S⟩
 .exact .inr ⟨pre _ q,w⟩
end
section
variable {l:List Node} {F:Nat} (hn:l.length<=1000000) (hF:F<=1000000) (hA:∀x∈l,AW F l.length x.cu)
variable {cl:List Int} {rep:Nat->Nat} (hcl:cl.length=l.length) (hc:∀x,x<l.length->cl.getD x 0=(rep x:Nat)) (rl:∀x,x<l.length->rep x<l.length)
structure QI (l:List Node) (rep:Nat->Nat) (i k:Nat) (ys:List (List cD)):Prop where
 len:ys.length=l.length
 from_:∀c,c<l.length->∀a∈ys.getD c [],∃x y,l[x]? =some y/\rep x=c/\∃b∈y.cu,a=⟨b.bN,(rep b.To.toNat:Nat)⟩
 nd:∀c,c<l.length->((ys.getD c []).map (·.bN)).Nodup
 all:∀x y,l[x]? =some y->x<i->∀b∈y.cu,∃a∈ys.getD (rep x) [],a.bN=b.bN
 some_:∀y,l[i]? =some y->∀b∈y.cu.take k,∃a∈ys.getD (rep i) [],a.bN=b.bN
theorem JB {qG:Node->List cD->Node}:∀(xs:List Node) (q:List (List cD)),xs.length=q.length->uB qG xs (q.map some)=some (List.zipWith qG xs q)
 |[],[],_=>rfl
 |x::xs,y::q,h=>by have:=JB (qG:=qG) xs q (by simp_all);simp_all[uB]
 |[],y::q,h=>by simp at h
 |x::xs,[],h=>by simp at h
theorem qd {R:Type} {qG:Node->List cD->Node} {xs:List Node} {q:List (List cD)} (h:xs.length=q.length) (k:List Node->Option R):x7 qG xs (q.map some) k=k (List.zipWith qG xs q):=by simp_all[x7,JB]
theorem NA {R:Type} {q:List (List cD)} {i:Nat} (h:i<q.length) (k:List cD->List (Option (List cD))->Option R):Wg (q.map some) i k=k (q.getD i []) ((q.map some).set i none):=by simp_all[Wg]
abbrev G2:Node->List cD->Node:=λx z=>{ x with cu:=z }
include hA rl in
theorem QI.aw {i k:Nat} {w:List (List cD)} (I:QI l rep i k w) {c:Nat} (hcl:c<l.length):AW F l.length (w.getD c []):=by refine⟨I.nd c hcl,λa D=> ?_⟩;obtain⟨x,y,q,K,b,G,rfl⟩:=I.from_ c hcl a D;have z:=(hA y (aZ q)).ok b G;refine⟨z.1,by show 0<=((rep b.To.toNat:Nat):Int);omega,?_⟩;have:=rl b.To.toNat af;show((rep b.To.toNat:Nat):Int)<_;omega
include hn hF hA hcl hc rl
theorem h453_11 {D:List Node} (hnd:D.length=l.length) {root:Int} {o8:FSt} {i:Nat} {y:Node} (G:l[i]? =some y):∀(xs:List cD) (k:Nat) (w:List (List cD)),y.cu.drop k=xs->QI l rep i k w->
  ∃L,QI l rep (i+1) 0 L/\∀res,CI l cl root ((i+1:Nat):Int) o8 D (L.map some)=some res->B8 l cl root (i:Int) ((rep i:Nat):Int) (k:Int) o8 D (w.map some)=some res:=by
 have hil:i<l.length:=(bQ.1 G).1;have Q:=rl i hil;have hyA:=hA y (aZ G);have hyl:=hyA.len;intro xs;induction xs with
 |nil=>
  intro k w z I;refine⟨w,⟨I.len,I.from_,I.nd,λx S hx hlt b hb=> ?_,λS K b hb=>by cases hb⟩,λres hr=>Kw ?_⟩
  .by_cases e:x=i
   .subst e;rw[G] at hx;cases hx;refine I.some_ y G b ?_;simp_all[jY,mT,z]
   .exact I.all x S hx af b hb
  .rw[iX G,bq z,az,bP af];omega
 |cons b xs ih=>
  intro k w z I;have hb:=aZ (bZ z);have hbo:=hyA.ok b hb;obtain⟨t,ht⟩:=gm hbo.2.1;have Vq:t<l.length:=af;have htt:b.To.toNat=t:=af;have hlt:=eF z;have hyc:=(QI.aw hA rl I Q).len;have hz:(List.zipWith G2 D w)[rep i]? =some (G2 (D.getD (rep i) default) (w.getD (rep i) [])):=by rw[List.getElem?_zipWith,aK (by omega:rep i<D.length),aK (by rw[I.len];omega:rep i<w.length),bC,bC,aK (by omega:rep i<D.length),aK (by rw[I.len];omega:rep i<w.length)];rfl
  cases e:fa (w.getD (rep i) []) b.bN with
  |some a=>
   obtain⟨ha1,ha2⟩:=IJ e
   have I2:QI l rep i (k+1) w:=⟨I.len,I.from_,I.nd,I.all,λS K U q=>by
    rw[G] at K;cases K;rw[de,bZ z] at q;rcases bu.1 q with q|q
    .exact I.some_ y G U q
    .simp at q;subst q;exact⟨a,ha1,ha2⟩⟩
   obtain⟨L,g1,g2⟩:=ih (k+1) w (aI z) I2;refine⟨L,g1,λres hr=>Kw ?_⟩;rw[iX G,aV z,ak,iX G,aM z,qd (by rw[hnd,I.len]),c476 hz (by show(w.getD (rep i) []).length<=_;omega),aj];show(bif !(fr (w.getD (rep i) []) b.bN).2 then _ else _)=_;unfold fr;rw[e,cond_neg (by rfl),aR z af];exact g2 res hr
  |none=>
   have hno:=Xh e;have I2:QI l rep i (k+1) (w.set (rep i) (w.getD (rep i) []++[⟨b.bN,(rep t:Nat)⟩])):=by
    have O:rep i<w.length:=by rw[I.len];exact Q
    refine⟨by rw[jg];exact I.len,λc N a P=> ?_,λc N=> ?_,λx S hx hlt' U q=> ?_,λS K U q=> ?_⟩
    .rw[fF] at P;by_cases V:rep i=c
     .subst V;rw[aB ⟨rfl,O⟩] at P;rcases bu.1 P with P|P
      .exact I.from_ _ Q a P
      grind
     .rw[au (λh=>V h.1)] at P;exact I.from_ c N a P
    .rw[fF];by_cases V:rep i=c
     .subst V;rw[aB ⟨rfl,O⟩,cn,iI];refine⟨I.nd _ Q,by simp,λu hu v hv=> ?_⟩;grind
     .rw[au (λh=>V h.1)];exact I.nd c N
    .obtain⟨a,P,hf⟩:=I.all x S hx hlt' U q;grind
    .rw[G] at K;cases K;rw[fF,aB ⟨rfl,O⟩];rw[de,bZ z] at q;rcases bu.1 q with q|q
     .obtain⟨a,P,hf⟩:=I.some_ y G U q;grind
     simp_all
   obtain⟨L,g1,g2⟩:=ih (k+1) _ (aI z) I2;refine⟨L,g1,λres hr=>Kw ?_⟩;have hgt:∀{R:Type} (kk:Int->Option R),bA cl (t:Int) kk=kk ((rep t:Nat):Int):=λkk=>by rw[vi af];simp_all
   rw[iX G,aV z,ak,iX G,aM z,qd (by rw[hnd,I.len]),c476 hz (by grind),aj];show(bif !(fr (w.getD (rep i) []) b.bN).2 then _ else _)=_;have hfr:(fr (w.getD (rep i) []) b.bN).2=false:=by unfold fr;rw[e]
   rw[Bv af,bg,NA (by grind),ht,hgt,cC _ af ai af,bU ⟨af,af⟩,bU (by grind),aR z af];simp_all[AR]
theorem h453_7 {nds:List Node} (q:nds.length=l.length) {root:Int} {N:FSt}:∀(k i:Nat) (D:List (List cD)),l.length=i+k->QI l rep i 0 D->
  ∃G,QI l rep l.length 0 G/\∀res,(bA cl root λw=>Option.bind (f436 (FSt.mk (List.zipWith G2 nds G)) w) λz=>some z)=some res->CI l cl root (i:Int) N nds (D.map some)=some res:=by
 intro k;induction k with
 |zero=>intro i D Q I;have e:i=l.length:=af;subst e;refine⟨D,I,λres S=>XR ?_⟩;rw[cond_neg ai,qd (by rw[q,I.len])];omega
 |succ k U=>
  intro i D Q I;have K:i<l.length:=af;obtain⟨V,O,g1⟩:=h453_11 hn hF hA hcl hc rl q (root:=root) (o8:=N) (aK K) _ 0 _ rfl I;obtain⟨ys2,P,g2⟩:=U _ _ af O;refine⟨_,P,λres S=>XR ?_⟩;have hg:∀{R:Type} (L:Int->Option R),bA cl (i) L=L ((rep i)):=λL=>by rw[vi af];simp_all
  grind
omit hF hA hcl hc rl in
theorem h453_3 {q:List Int} (K:q.length=l.length) {root:Int} {D:FSt} {res:FSt} (z:CI l cl root 0 D (q.map λt=>⟨t,[]⟩) ((replicate l.length []).map some)=some res):∀(k i:Nat),l.length=i+k->
  FO l cl q root (i:Int) D ((q.take i).map λt=>⟨t,[]⟩) (replicate i (some []))=some res:=by
 intro k;induction k with
 |zero=>intro i G;have e:i=l.length:=af;subst e;refine XQ ?_;rw[cond_neg (by rw[aT];omega),jY af];rw[uO] at z;exact z
 |succ k I=>intro i G;have w:i<q.length:=af;refine XQ ?_;rw[cond_pos (by rw[bB];omega),cO w,cC _ (by rw[bz,fJ];omega) ai af,bP af];unfold AR;have:=I (i+1) af;rw[de,aK w,uY,cn] at this;exact this
theorem c453 {types:List Int} (S:types.length=l.length) {root:Nat} (hr:root<l.length):∃g w,f453 l cl types (root:Int)=some (nt (srG g) l.length (rep root))/\g.aA.length=l.length/\QI l rep l.length 0 w/\(∀c,c<l.length->g.aA[c]? =some ⟨types.getD c 0,w.getD c []⟩):=by
 have U:QI l rep 0 0 (replicate l.length []):=by
  have hz:∀x,(replicate l.length ([]:List cD)).getD x []=[]:=λx=>by grind
  exact⟨ai,(λc _ a Q=>by simp_all),(λc _=>by simp_all),(λx y _ O=>absurd O af),(λy _ b V=>by cases V)⟩
 obtain⟨w,I,g⟩:=h453_7 hn hF hA hcl hc rl (nds:=types.map _) (by simp_all) l.length 0 _ af U;have K:(List.zipWith G2 (types.map λt=>(⟨t,[]⟩)) w).length=l.length:=by simp[S,I.len]
 have D:∀c,c<l.length->(List.zipWith G2 (types.map λt=>(⟨t,[]⟩)) w)[c]? =some ⟨types.getD c 0,w.getD c []⟩:=λc q=>by grind
 refine⟨_,w,?_,K,I,D⟩;refine e453 ?_;have N:Uq _:=λx O=>by
  obtain⟨c,z⟩:=jO.1 O;have q :=by have:=(bQ.1 z).1;rw[K] at this;exact this
  rw[D c q] at z;cases z;have aw:=QI.aw hA rl I q;refine⟨e7 aw.len hF,λa Q=> ?_⟩;have:=(aw.ok a Q).2;simp_all
 have L:∀{R:Type} (P:Int->Option R),bA cl (root) P=P ((rep root)):=λP=>by rw[vi af];simp_all
 have G:=g (nt (srG ⟨List.zipWith G2 (types.map λt=>⟨t,[]⟩) w⟩) l.length (rep root)) (by
  rw[L,c436 N (by simp_all) (by simp_all)]
  simp_all)
 exact h453_3 hn S G l.length 0 af
end
def Yh {T F:Nat} {sb:Int->Int->Prop} (hT:TO T sb) {l:List Node} {U:Gr} {W:List (Nat×Nat)} (hA:∀x∈l,AW F l.length x.cu) (us:∀x,x<l.length->U.sc x=(lG l).sc x) (ut:∀x,x<l.length->U.ty x=(lG l).ty x)
  {out ty:List Int} {ar:List (List cD)} {rep d:Nat->Nat} (J:JI 1 (AW F l.length) sbT (lG0 l) l.length W [] out ty ar rep d) {types:List Int}
  (ZF:∀c,c<l.length->(0<=types.getD c 0/\types.getD c 0<(T:Int))/\types.getD c 0=types.getD (rep c) 0/\sb ((lG l).ty c) (types.getD c 0)/\∀u,0<=u->u<(T:Int)->(∀x,x<l.length->rep x=rep c->sb ((lG l).ty x) u)->sb (types.getD c 0) u)
  {g:FSt} {ys:List (List cD)} (I:QI l rep l.length 0 ys) (hg:∀c,c<l.length->g.aA[c]? =some ⟨types.getD c 0,ys.getD c []⟩):YY T F sb U l.length W (srG g) rep:=by
 have Q:∀c,c<l.length->ME g c=(NQ (ys.getD c [])).map λa=>(a.bN,a.To.toNat):=λc hcl=>by unfold ME;rw[hg c hcl]
 have R:∀c,c<l.length->rE g c=types.getD c 0:=λc hcl=>by unfold rE;rw[hg c hcl]
 have aw:∀c,c<l.length->AW F l.length (ys.getD c []):=λc hcl=>QI.aw hA J.pi.rl I hcl
 have K:∀c,c<l.length->∀p∈ME g c,∃x y,l[x]? =some y/\rep x=c/\∃b∈y.cu,p=(b.bN,rep b.To.toNat):=λc hcl p z=>by rw[Q c hcl] at z;obtain⟨a,ha,rfl⟩:=aD.1 z;obtain⟨x,y,D,h2,b,G,rfl⟩:=I.from_ c hcl a ((xx _).2.2 a|>.1 ha);exact⟨x,y,D,h2,b,G,ai⟩
 have N:∀x y,l[x]? =some y->∀b∈y.cu,(b.bN,b.To.toNat)∈(lG l).sc x:=λx y V b G=>by obtain⟨w,e⟩:=bQ.1 V;rw[Nh w,e];exact aD.2 ⟨b,G,rfl⟩
 have O:∀x y,x<l.length->y<l.length->rep x=rep y->∀p∈(lG l).sc x,∀q∈(lG l).sc y,p.1=q.1->rep p.2=rep q.2:=λx y w hy V p z q hq hpq=>by obtain⟨a,ha,D,h2⟩:=J.sar x w p z;obtain⟨b,G,h3,h4⟩:=J.sar y hy q hq;rw[<-V] at G;have:=nd_uniq (J.ao _ (J.pi.rl x w)).nd ha G af;rw[h2.done,this,h4.done]
 have conv:∀{C:Gr} {m:Nat->Nat},Uj sb U l.length W C m->Uj sbT (lG0 l) l.length W C m:=λP=>⟨λ_ _=>trivial,λx w p z=>P.ar x w p (by rw[us x w];exact z),P.eq⟩
 refine⟨⟨λx w p z=> ?_,λx w=> ?_,λx w p z=> ?_,λx w=> ?_⟩,J.pi.rl,J.pi.rr,λx w p z=> ?_,⟨λx w=> ?_,λx w p z=> ?_,λp z=>(J.seq p z).done⟩,λC m hC P x w=> ?_⟩
 .obtain⟨x',y,D,_,b,G,rfl⟩:=K x w p z;have:=(hA y (aZ D)).ok b G;exact J.pi.rl _ af
 .show CO (ME g x);rw[Q x w];unfold CO;rw[kO];exact Yr (aw x w).nd
 .obtain⟨x',y,D,_,b,G,rfl⟩:=K x w p z;exact((hA y (aZ D)).ok b G).1
 .show 0<=rE g x/\rE g x<_;rw[R x w];exact(ZF x w).1
 .obtain⟨x',y,D,_,b,G,rfl⟩:=K x w p z;have:=(hA y (aZ D)).ok b G;exact J.pi.rr _ af
 .show sb _ (rE g (rep x));rw[R _ (J.pi.rl x w),ut x w,<-(ZF x w).2.1];exact(ZF x w).2.2.1
 .rw[us x w] at z;have hp':=z;rw[Nh w] at z;obtain⟨b,G,rfl⟩:=aD.1 z;obtain⟨a,ha,haf⟩:=I.all x _ (aK w) w b G;obtain⟨x2,y2,D,h2,b2,L,rfl⟩:=I.from_ _ (J.pi.rl x w) a ha;have S:=(bQ.1 D).1;have e:=O x _ w S h2.symm _ hp' _ (N _ _ D _ L) haf.symm;show(b.bN,rep _)∈ME g _;rw[Q _ (J.pi.rl x w)];refine aD.2 ⟨_,(xx _).2.2 _|>.2 ha,?_⟩;rw[haf,bg];rw[e]
 .obtain⟨e1,_,_⟩:=J.dD C m hC (conv P);have hall:∀y,y<l.length->rep y=rep x->m y=m x:=λy hy e=>by grind
  refine⟨e1 x w,?_,λp z=> ?_⟩
  .show sb (rE g _) _;have h0:=P.ty x w;rw[R _ (J.pi.rl x w),<-(ZF x w).2.1];refine(ZF x w).2.2.2 _ (hT.rr h0).1 (hT.rr h0).2 λy hy e=> ?_
   rw[<-ut y hy,<-hall y hy e];exact P.ty y hy
  .obtain⟨x2,y2,D,h2,b2,L,rfl⟩:=K _ (J.pi.rl x w) p z;have S:=(bQ.1 D).1;have:=P.ar _ S (b2.bN,b2.To.toNat) (by simp_all);have hb3:=(hA _ (aZ D)).ok _ L;simp_all
section
variable {h:aN} {T F:Nat} {sb:Int->Int->Prop} (H:HM h T sb) {A B:FSt} (hA:Can T F A) (hB:Can T F B) (hF:F<=300) (hn:A.aA.length+B.aA.length<=1000000)
include H hA hB hF hn
theorem c440:(∃f,f440 h A B=some (f,true)/\Ui T F sb A B f)\/(f440 h A B=some (⟨[]⟩,false)/\∀C,Can T F C->Le sb A C->Le sb B C->False):=by
 have N:(A.aA++B.aA.map (PX A.aA.length)).length=A.aA.length+B.aA.length:=ai;have g1:f448 A.aA B.aA=some (A.aA++B.aA.map (PX A.aA.length)):=c448 hn (hB.small af af);have z:∀x,(q:x<A.aA.length)->(A.aA++B.aA.map (PX A.aA.length))[x]? =some A.aA[x]:=λx q=>by rw[fL q,aK q]
 have D:∀x,(q:x<A.aA.length+B.aA.length)->(w:¬x<A.aA.length)->(A.aA++B.aA.map (PX A.aA.length))[x]? =some (PX A.aA.length (B.aA[x-A.aA.length]'(by omega))):=λx q w=>by rw[fK af,dN,aK af];rfl
 have G:∀x∈A.aA++B.aA.map (PX A.aA.length),AW F (A.aA++B.aA.map (PX A.aA.length)).length x.cu:=λx q=>by
  rw[N];rcases bu.1 q with q|q
  .have:=hA.ao q;exact⟨this.Ay.nd,λa Q=>⟨(this.ok a Q).1,(this.ok a Q).2.1,by have:=(this.ok a Q).2.2;omega⟩⟩
  .obtain⟨y,hy,rfl⟩:=aD.1 q;exact((hB.ao hy).sh af).aw
 have Vq:∀x∈A.aA++B.aA.map (PX A.aA.length),0<=x.dU/\x.dU<(T:Int):=λx q=>by
  rcases bu.1 q with q|q
  .exact hA.tyr q
  .obtain⟨y,hy,rfl⟩:=aD.1 q;show 0<=y.dU/\_;exact hB.tyr hy
 have us:∀x,x<A.aA.length+B.aA.length->(ri A B).sc x=(lG (A.aA++B.aA.map (PX A.aA.length))).sc x:=λx q=>by
  rw[Nh (by rw[N];exact q)];by_cases w:x<A.aA.length
  .have e:=(bQ.1 (z x w)).2;rw[e,(Bl w).1,wD w];rfl
  .have e:=(bQ.1 (D x q w)).2;rw[e,(Bm w).1,wD af];show _=(yS _ _).map _;rw[Yq (hB.ao (cG _))];rfl
 have ut:∀x,x<A.aA.length+B.aA.length->(ri A B).ty x=(lG (A.aA++B.aA.map (PX A.aA.length))).ty x:=λx q=>by
  rw[SQ (by rw[N];exact q)];by_cases w:x<A.aA.length
  .have e:=(bQ.1 (z x w)).2;rw[e,(Bl w).2,Ao w]
  .have e:=(bQ.1 (D x q w)).2;rw[e,(Bm w).2,Ao af];rfl
 have R:=hA.ne;have hb0:=hB.ne;have vk:0<T:=by have:=hA.go.tp 0 R;omega
 clear z D;generalize hL:A.aA++B.aA.map (PX A.aA.length)=l at *;have U:l.length *F<=300000000:=by have:=nV (by omega:l.length<=1000000) hF;omega
 have g2:f449 (l.length:Int)=some (ids 0 l.length):=c449 af;have g3:f450 (ids 0 l.length) 0 (A.aA.length:Int)=some (NJ ((0:Nat):Int) A.aA.length (ids 0 l.length)):=by have:=c450 (n:=l.length) (x:=0) (y:=A.aA.length) af af af;rw[Nat.zero_min,Nat.zero_max] at this;exact this
 obtain⟨out,ty,ar,rep,d,g4,ho,J⟩:=c451 (F:=F) (l:=l) (lo:=0) (a:=A.aA.length) af af U (cW _) af G;have e0:(0:Int)=((0:Nat):Int):=rfl;rcases c452 H af Vq vk J.pi.len ho J.pi.rl J.pi.rr with⟨types,P,ht1,ht2⟩|⟨P,c,hcl,V⟩
 .obtain⟨g,ys,g6,hg1,I,S⟩:=c453 (F:=F) af af G J.pi.len ho J.pi.rl ht1 (root:=0) af;have hU:=Yh H.to G (U:=ri A B) (λx q=>us x af) (λx q=>ut x af) J ht2 I S;have K:l.length=A.aA.length+B.aA.length:=N;rw[K] at hU g6;refine .inl ⟨_,e440 ?_,Rz H.to hA hB hU⟩;rw[g1,aj,g2,aj,g3,aj,g4,aj,P,aj,cond_neg (by rfl),e0,g6,aj]
 .refine .inr ⟨e440 ?_,λC hC h1 h2=> ?_⟩
  .rw[g1,aj,g2,aj,g3,aj,g4,aj,P,aj,cond_pos (by rfl)]
  .obtain⟨m,_,O⟩:=JM hA hB hC h1 h2;have K:l.length=A.aA.length+B.aA.length:=N;rw[<-K] at O;have conv:Uj sbT (lG0 l) l.length [(0,A.aA.length)] (oP C) m:=⟨λ_ _=>trivial,λx q p hp=>O.ar x q p (by rw[us x af];exact hp),O.eq⟩
   obtain⟨e1,_,_⟩:=J.dD _ m hC.Rc conv
   have L:=H.to.rr (O.ty c hcl);refine V ((oP C).ty (m c)) L.1 L.2 λx q hxc=> ?_
   have:m c=m x:=by rw[<-e1 x q,hxc]
   rw[this,<-ut x af];exact O.ty x q
end
