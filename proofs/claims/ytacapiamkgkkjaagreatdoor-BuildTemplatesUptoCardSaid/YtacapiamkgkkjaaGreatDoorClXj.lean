/- Unification by the least closed relation (the reference's). -/
import Derived.Test.YtacapiamkgkkjaaGreatDoorClXh
set_option linter.all false
open Go.IntKind (wrap)
open List (replicate)
namespace Go.Proofs.YtacapiamkgkkjaaGreatDoor.cl.pf
open Go Go.AM
def QH (k:Nat) (x:Node):Node:=⟨x.eF,zj k x.cn⟩
def h448_7 {a b:List Node} {i:Nat} {x:Node} (w:b[i]? =some x) {t:Int} {o:List Node} {I:List cD} (K:a.length<=1000000) (N:o.length<=100000000) (L:x.cn.length<=1000000) (z:∀c∈x.cn,0<=c.To/\c.To<=1000000) {res:List Node}:
  ∀(xs:List cD) (k:Nat),x.cn.drop k=xs->Mk a b (wrap .i64 ((i:Int)+1)) (o++[⟨t,zj a.length x.cn⟩])=some res->
   Rt a b (i:Int) (k:Int) t o I (zj a.length (x.cn.take k))=some res:=by
 intro xs;induction xs with
 |nil=>intro k q D;refine adR ?_;rw[jd w,bg q,au,cF _ af ai af,gI (j0 q)];omega
 |cons c xs G=>
  intro k q D;refine adR ?_;have hc:=z c (aP (bU q));rw[jd w,aR q,aj,jd w,aK q,jd w,aK q,cF _ (by grind[zj]) ai af,aN q af,oW af af];have e:zj a.length (x.cn.take k)++[⟨c.bP,c.To+(a.length)⟩]=zj a.length (x.cn.take (k+1)):=by rw[dy,bU q];simp[zj]
  rw[e];exact G _ (aI q) D
def h448 {a b:List Node} (hn:a.length+b.length<=1000000) (z:∀x∈b,x.cn.length<=1000000/\∀c∈x.cn,0<=c.To/\c.To<=1000000):∀(xs:List Node) (i:Nat) (o:List Node),b.drop i=xs->o.length<=a.length+i->Mk a b (i:Int) o=some (o++xs.map (QH a.length)):=by intro xs;induction xs with
 |nil=>intro i o q _;refine adQ ?_;grind
 |cons x xs G=>intro i o q I;have w:=z x (aP (bU q));have D:=eM q;refine adQ ?_;rw[aR q,aj,aK q];refine h448_7 (bU q) af af w.1 w.2 _ 0 rfl ?_;rw[aN q af,G _ _ (aI q) aH];simp[QH]
def c448 {a b:List Node} (hn:a.length+b.length<=1000000) (q:∀x∈b,x.cn.length<=1000000/\∀c∈x.cn,0<=c.To/\c.To<=1000000):f448 a b=some (a++b.map (QH a.length)):=by refine e448 ?_;rw[cF _ ai af af];exact h448 hn q b 0 a rfl af
def c449 {n:Nat} (hn:n<=1000000):f449 (n:Int)=some (ids 0 n):=by
 have key:∀(k i),n=i+k->Ru (n) (i) (ids 0 i)=some (ids 0 n):=by intro k;induction k with
  |zero=>simp_all[adS]
  |succ k w=>
   intro i q;refine adS ?_;have e:ids 0 i++[(i:Int)]=ids 0 (i+1):=by have:=Jh 0 i 1;rw[eY] at this;rw[<-this];rfl
   rw[cF _ (by rw[rE];omega) ai af,bJ af];grind
 exact e449 (key n 0 af)
def Ol (low high:Int) (l:List Int):List Int:=l.map λx=>if x=high then low else x
def h450 {low high:Int}:∀(xs done:List Int),done.length+xs.length<=1000000->Ml low high (done.length:Int) (done++xs)=some (done++Ol low high xs):=by intro xs;induction xs with
 |nil=>intro done _;refine adT ?_;rw[cond_neg ai];rfl
 |cons x xs D=>
  intro done w;refine adT ?_;have q:∀{R:Type} (k:Int->Option R),ef (done++x::xs) done.length k=k x:=λk=>iE ai k
  have z:done++Ol low high (x::xs)=(done++[if x=high then low else x])++Ol low high xs:=by simp[Ol]
  rw[cond_pos (by grind),BG ai,aS,bJ af];by_cases e:x=high
  .rw[b9 ⟨af,ai⟩];grind
  grind
structure AW (F n:Nat) (l:List cD):Prop where
 nd:(l.map (·.bP)).Nodup
 ok:∀a∈l,(0<=a.bP/\a.bP<(F:Int))/\0<=a.To/\a.To<(n:Int)
theorem Gm.nd {l:List cD} (h:Gm l):(l.map (·.bP)).Nodup:=by unfold List.Nodup;rw[ic];exact h.imp λh=>by omega
def AO.aw {F n:Nat} {l:List cD} (h:AO F n l):AW F n l:=⟨h.zW.nd,h.ok⟩
def AW.Ot {F n:Nat} {l:List cD} (h:AW F n l):AO F n (Ot l):=⟨Za h.nd,λa q=>h.ok a ((xS l).2.2 a|>.1 q)⟩
def AW.len {F n:Nat} {l:List cD} (h:AW F n l):l.length<=F:=by have:=h.Ot.len;rwa[(xS l).2.1] at this
def nd_uniq {l:List cD} (h:(l.map (·.bP)).Nodup) {a b:cD} (q:a∈l) (w:b∈l) (e:a.bP=b.bP):a=b:=by induction l with
 |nil=>cases q
 |cons x l z=>grind
def fa (l:List cD) (f:Int):Option cD:=l.find? λa=>a.bP==f
def Jf {l:List cD} {f:Int} {a:cD} (h:fa l f=some a):a∈l/\a.bP=f:=by have q:=oq h;have w:=qt h;simp_all
def XV {l:List cD} {f:Int} (h:fa l f=none):∀a∈l,a.bP≠f:=λa q e=>by have:=zz.1 h a q;simp_all
def fr (l:List cD) (f:Int):Int×Bool:=match fa l f with
 |some a=>(a.To,true)
 |none=>(0,false)
def XY (x:cD) (l:List cD) (f:Int):fr (x::l) f=if x.bP=f then(x.To,true) else fr l f:=by unfold fr fa;grind
def c491 {l:List cD} {f:Int} (z:l.length<=1000000):f491 l f=some (fr l f):=by
 have key:∀(xs) (i),l.drop i=xs->Rz l f (i)=some (fr xs f):=by intro xs;induction xs with
  |nil=>intro i q;refine ad1 ?_;rw[bg q];rfl
  |cons x xs w=>intro i q;refine ad1 ?_;rw[aR q,aK q,aK q,aN q af,w _ (aI q),XY];grind
 exact e491 (key l 0 rfl)
def c476 {f:FSt} {c:Nat} {x:Node} (w:f.az[c]? =some x) {MV:Int} (D:x.cn.length<=1000000):f476 f (c:Int) MV=some (fr x.cn MV):=by
 have key:∀(xs) (i),x.cn.drop i=xs->Rx MV x.cn (i)=some (fr xs MV):=by intro xs;induction xs with
  |nil=>intro i q;refine adY ?_;rw[bg q];rfl
  |cons x xs z=>intro i q;refine adY ?_;rw[aR q,aK q,aK q,aN q af,z _ (aI q),XY];grind
 refine e476 ?_;rw[jd w];grind
def rm (q w:List cD):List cD×List dN:=(q++w.filter λh=>(fa q h.bP).isNone,w.filterMap λh=>(fa q h.bP).map λa=>⟨a.To,h.To⟩)
def rm_ok (w G:List cD):MG w G (rm w G):=by
 refine⟨λa q=> ?_,λa q=>dx _ q,λa q=> ?_,λp K=> ?_,Ey _ _⟩
 .exact(bf.1 q).imp id λh=>(dw.1 h).1
 .cases e:fa _ _ with
  |none=>exact⟨a,gX _ (dw.2 ⟨q,by rw[e];rfl⟩),rfl, .inl rfl⟩
  |some b=>obtain⟨z,D⟩:=Jf e;exact⟨b,dx _ z,D, .inr (fC.2 ⟨a,q,by rw[e];rfl⟩)⟩
 .obtain⟨h,L,e⟩:=fC.1 K;cases I:fa w h.bP with
  |none=>simp_all
  |some b=>obtain⟨z,D⟩:=Jf I;grind
def rm_aw {F n:Nat} {q G:List cD} (w:AW F n q) (z:AW F n G):AW F n (rm q G).1:=by
 refine⟨?_,λa D=>((rm_ok _ _).sub a D).elim (w.ok a) (z.ok a)⟩;show((q++_).map _).Nodup;rw[cE,gW];refine⟨w.nd,?_,λx I y K e=> ?_⟩
 .exact(zH.map _).nodup z.nd
 .obtain⟨a,D,rfl⟩:=aG.1 I;obtain⟨b,L,rfl⟩:=aG.1 K;simp_all[fa]
section
variable {n:Nat} {out:List Int} {ar:List (List cD)}
def h451_23 {i:Nat} {D I:Nat} (G:D<ar.length) (z:I<ar.length) (K:(ar.getD D []).length<=1000000) (P:(ar.getD I []).length<=1000000) {res:List Int}:∀(xs:List cD) (k:Nat) (q:List dN) (both:List cD),(ar.getD I []).drop k=xs->q.length+xs.length<=1000000000->both.length+xs.length<=2000000->
  ue (wrap .i64 ((i:Int)+1)) (q++xs.filterMap λh=>(fa (ar.getD D []) h.bP).map λa=>⟨a.To,h.To⟩) out (ar.set D (both++xs.filter λh=>(fa (ar.getD D []) h.bP).isNone))=some res->
  FZ (i:Int) (D:Int) (I:Int) (k:Int) q out ar both=some res:=by
 intro xs;induction xs with
 |nil=>intro k q both w _ _ Q;refine Yx ?_;rw[rdL z,bg w,rdL G];simp_all
 |cons x xs L=>intro k q both w N O Q;simp at N O;refine Yx ?_;rw[rdL z,aR w,aj,rdL z,aK w,rdL G,c491 K,ak,aN w af];unfold fr;cases e:fa _ _ with
  |none=>rw[cond_neg (by rfl),cF _ af ai af];refine L _ _ _ (aI w) af aH ?_;simp_all
  |some a=>rw[cond_pos (by rfl),cF _ af ai af];refine L _ _ _ (aI w) aH af ?_;simp_all
def h451_17 {i:Nat} {w q:Nat} {todo:List dN} (z:w<ar.length) (D:q<ar.length) (G:(ar.getD w []).length<=1000000) (I:(ar.getD q []).length<=1000000) (P:todo.length<=500000000) {res:List Int}:∀(xs done:List Int),done.length+xs.length<=1000000->
  ue (wrap .i64 ((i:Int)+1)) (todo++(rm (ar.getD w []) (ar.getD q [])).2) (done++Ol w q xs) (ar.set w (rm (ar.getD w []) (ar.getD q [])).1)=some res->
  AD (i:Int) (w:Int) (q:Int) (done.length:Int) todo (done++xs) ar=some res:=by
 intro xs;induction xs with
 |nil=>intro done K L;refine Yw ?_;rw[cond_neg ai,rdL z,cF _ ai af af,dU];exact h451_23 z D G I (ar.getD q []) 0 todo _ rfl af af L
 |cons x xs Q=>
  intro done K L;simp at K;refine Yw ?_;have N:∀{R:Type} (k:Int->Option R),ef (done++x::xs) done.length k=k x:=λk=>iE ai k
  have O:done++Ol w q (x::xs)=(done++[if x=(q) then(w:Int) else x])++Ol w q xs:=by simp[Ol]
  rw[cond_pos (by grind),BG ai,aS,N,bJ af];by_cases e:x=(q)
  .rw[b9 ⟨af,ai⟩];grind
  grind
end
def PI.yo {n:Nat} {out:List Int} {rep:Nat->Nat} (w:out.length=n) (z:∀x,x<n->out.getD x 0=(rep x:Nat)) (rl:∀x,x<n->rep x<n) (rr:∀x,x<n->rep (rep x)=rep x):PI n out rep (λx=>if rep x=x then 0 else 1):=by
 refine⟨w,λx q=>⟨_,rl x q,z x q,rr x q,?_⟩,λx q=> ?_,rl,rr⟩
 .grind
 grind
def Y7 {low high:Int} {l:List Int} {x:Nat} (q:x<l.length):(Ol low high l).getD x 0=if l.getD x 0=high then low else l.getD x 0:=by simp_all[Ol]
abbrev sbT:Int->Int->Prop:=λ_ _=>True
def h451_11 {F n:Nat} {U:Gr} {W:List (Nat×Nat)} {ty:List Int} (hn:n<=1000000) (hF:F<=1000000):∀(c k i:Nat) (w:List dN) (out:List Int) (ar:List (List cD)) (rep d:Nat->Nat),
  cnt n rep<=c->w.length-i<=k->i<=w.length->w.length+cnt n rep *F<=400000000->(∀x,x<n->out.getD x 0=(rep x:Nat))->JI 1 (AW F n) sbT U n W (w.drop i) out ty ar rep d->
  ∃z G D O,ue (i:Int) w out ar=some z/\(∀x,x<n->z.getD x 0=(D x:Nat))/\∃ty',JI 1 (AW F n) sbT U n W [] z ty' G D O:=by
 intro c;induction c using Nat.strongRecOn generalizing ty with
 |ind c ihc=>
 intro k;induction k with
 |zero=>intro i w out ar rep d hc hk hi hb S J;have e:i=w.length:=af;subst e;rw[qm] at J;exact⟨out,ar,rep,d,Yv (by rw[cond_neg (by rw[bB];omega)]),S,ty,J⟩
 |succ k ihk=>
  intro i w out ar rep d hc hk hi hb S J;by_cases hlt:i<w.length
  .have hd:w.drop i=w[i]::w.drop (i+1):=jY hlt;generalize hp:w[i]=p at hd;have J:=J.mem (wt':=w.drop (i+1)++[p]) (λq=>by grind);obtain⟨⟨p1,p2⟩,p3,p4⟩:=J.wo p ai;obtain⟨I,hx0⟩:=fW p1;obtain⟨K,hx1⟩:=fW p3;have L:I<n:=af;have N:K<n:=af;have r0:p.a0.toNat=I:=af;have r1:p.a1.toNat=K:=af;have hol:out.length=n:=J.pi.len;have hg:∀{R:Type} (kk:dN->Option R),check (0<=(i:Int)/\Int.toNat (i:Int)<w.length) (ef w (Int.toNat (i:Int)) kk)=kk p:=λkk=>by
    rw[BG hlt,aS,mQ hlt,hp]
   have step:∀(r:List Int),(bif((if((rep K:Nat):Int)<((rep I:Nat):Int) then((rep K:Nat):Int) else((rep I:Nat):Int))==(if((rep K:Nat):Int)>((rep I:Nat):Int) then((rep K:Nat):Int) else((rep I:Nat):Int))) then ue ((i+1:Nat):Int) w out ar
     else AD (i:Int) (if((rep K:Nat):Int)<((rep I:Nat):Int) then((rep K:Nat):Int) else((rep I:Nat):Int)) (if((rep K:Nat):Int)>((rep I:Nat):Int) then((rep K:Nat):Int) else((rep I:Nat):Int)) 0 w out ar)=some r->ue (i:Int) w out ar=some r:=by
    intro r hr;refine Yv ?_;rw[cond_pos (by rw[bN];omega),hg,hx0,uA af,S I L,hg,hx1,uA af,S K N,hg,hx0,uA af,S I L,hg,hx1,uA af,S K N,bJ af];exact hr
   by_cases P:rep I=rep K
   .have J3:=J.skip (by rw[r0,r1];exact P);obtain⟨z,G,D,O,g1,g2,g3⟩:=ihk (i+1) w out ar rep d hc af af hb S J3;exact⟨z,G,D,O,step _ (by rw[P,cond_pos ai];exact g1),g2,g3⟩
   ·
    have fin:∀(a b:Nat),a≠b->a<n->b<n->∀(q:dN),rep q.a0.toNat=a->rep q.a1.toNat=b->JI 1 (AW F n) sbT U n W (w.drop (i+1)++[q]) out ty ar rep d->
      ∃z G D O,AD (i:Int) (a:Int) (b:Int) 0 w out ar=some z/\(∀x,x<n->z.getD x 0=(D x:Nat))/\∃ty',JI 1 (AW F n) sbT U n W [] z ty' G D O:=by
     intro a b hab V hbn q hqa hqb Q;have hal:a<ar.length:=by rw[Q.la];exact V
     have KO:b<ar.length:=by rw[Q.la];exact hbn
     have la:=(Q.ao _ V).len;have lb:=(Q.ao _ hbn).len;have M:=rm_ok (ar.getD a []) (ar.getD b []);have Jm:=Q.merge hqa hqb hab (λl hl c hc=>(hl.ok c hc).2) (λ_ _=>trivial) M (rm_aw (Q.ao _ V) (Q.ao _ hbn)) (t:=0) ⟨af,af⟩ trivial trivial (λ_ _ _=>trivial);have hcm:=Nv Q hqa hqb hab;have ho':∀x,x<n->(Ol a b out).getD x 0=(((λx=>if rep x=b then a else rep x) x:Nat):Int):=λx hx=>by
      rw[Y7 af,S x hx];show _=(((if rep x=b then a else rep x):Nat):Int)
      by_cases e:rep x=b
      .rw[aC af,aC e]
      .rw[aA af,aA e]
     have J3:=Jm.rD (PI.yo (out:=Ol a b out) (by unfold Ol;rw[bI];exact hol) ho' Jm.pi.rl Jm.pi.rr);have hmul:(cnt n (λx=>if rep x=b then a else rep x)+1) *F<=cnt n rep *F:=kC F hcm;rw[nX] at hmul;have hml:=M.le;have e3:w.drop (i+1)++(rm (ar.getD a []) (ar.getD b [])).2=(w++(rm (ar.getD a []) (ar.getD b [])).2).drop (i+1):=by grind
     rw[e3] at J3;obtain⟨z,G,D,O,g1,g2,g3⟩:=ihc _ (fo (Nat.lt_of_succ_le hcm) hc) (w++(rm (ar.getD a []) (ar.getD b [])).2).length (i+1) (w++(rm (ar.getD a []) (ar.getD b [])).2) _ _ _ _ (aQ _) af (by grind) (by grind) ho' J3;refine⟨z,G,D,O,?_,g2,g3⟩;have:=h451_17 (i:=i) (todo:=w) (ar:=ar) (res:=z) hal KO af af af out [] aH (by rw[bJ af,dU];omega);exact this
    by_cases hlt2:rep K<rep I
    .obtain⟨z,G,D,O,g1,g2,g3⟩:=fin (rep K) (rep I) (λe=>P e.symm) (J.pi.rl _ N) (J.pi.rl _ L) ⟨p.a1,p.a0⟩ (by show rep p.a1.toNat=_;rw[r1]) (by show rep p.a0.toNat=_;rw[r0]) J.swap;refine⟨_,_,_,O,step _ ?_,g2,g3⟩;have e1:(if((rep K):Int)<((rep I)) then((rep K):Int) else((rep I)))=((rep _)):=aC af;have e2:(if((rep K):Int)>((rep I)) then((rep K):Int) else((rep I)))=((rep _)):=aA af;rw[e1,e2,cond_neg (by rw[lE];omega)];exact g1
    .obtain⟨z,G,D,O,g1,g2,g3⟩:=fin _ _ P (J.pi.rl _ L) (J.pi.rl _ N) p (by rw[r0]) (by rw[r1]) J;grind
  grind
def h451_5 {l:List Node} {q a:Nat} (Q:l.length<=1000000) (L:q<=a) (K:a<l.length) {out:List Int} {res:List Int} (O:ue 0 (if q=a then[] else[⟨a,q⟩]) out (l.map (·.cn))=some res):
  ∀(k i:Nat),l.length=i+k->Mm l (Ol q a (ids 0 l.length)) (i:Int) (if a<i then(if q=a then[] else[⟨a,q⟩]) else[]) out ((l.take i).map (·.cn)++replicate k [])=some res:=by
 intro k;induction k with
 |zero=>intro i N;refine adU ?_;have e:i=l.length:=af;subst e;rw[cond_neg (by rw[bB];omega),aC K,fZ,zM,eP];exact O
 |succ k P=>
  intro i N;have w:i<l.length:=af;refine adU ?_;have hcl:i<(Ol (q:Int) (a:Int) (ids 0 l.length)).length:=by unfold Ol;rw[bI,rE];exact w
  have G:(Ol (q:Int) (a:Int) (ids 0 l.length)).getD i default=if i=a then(q:Int) else(i:Int):=by
   show List.getD _ _ 0=_;rw[Y7 (by rw[rE];exact w),KS w];by_cases e:i=a
   .rw[aC af,aC e]
   .rw[aA af,aA e]
  have D:i<((l.take i).map (·.cn)++replicate (k+1) ([]:List cD)).length:=aH;have I:((l.take i).map (·.cn)++replicate (k+1) ([]:List cD)).set i l[i].cn=(l.take (i+1)).map (·.cn)++replicate k []:=by
   rw[mC _ _ aH,dy,aM w]
   have:i-((l.take i).map (·.cn)).length=0:=aH
   rw[this,uk,sH,cE];simp
  rw[cond_pos (by rw[bN];omega),cR w,rdL D,vG hcl,G,aS,I,bJ af];have:=P (i+1) af;by_cases e:i=a
  .subst e;rw[aC af] at this;rw[aC rfl,aA (qu _)];by_cases z:q=i
   .rw[cond_neg (by simp[z])];rw[aC z] at this;exact this
   .rw[cond_pos (by rw[qs];omega),vG hcl,G,aC rfl,cF _ ai ai af];rw[aA z] at this;exact this
  .rw[aA e,cond_neg ai];have z:(if a<i+1 then(if q=a then[] else[(⟨(a:Int),(q:Int)⟩:dN)]) else[])=if a<i then(if q=a then[] else[⟨(a:Int),(q:Int)⟩]) else[]:=by
    by_cases h:a<i
    .rw[aC h,aC af]
    .rw[aA h,aA af]
   rw[z] at this;exact this
def lG (l:List Node):Gr:=⟨λx=>((l.map (·.cn)).getD x []).map λa=>(a.bP,a.To.toNat),λx=>(l.map (·.eF)).getD x 0⟩
def lG0 (l:List Node):Gr:=⟨(lG l).sc,λ_=>0⟩
def c451 {F:Nat} {l:List Node} {lo a:Nat} (z:l.length<=1000000) (hF:F<=100000) (R:l.length *F<=300000000) (w:lo<=a) (G:a<l.length) (hA:∀x∈l,AW F l.length x.cn):
  ∃out ty ar rep d,f451 l (Ol lo a (ids 0 l.length))=some out/\(∀x,x<l.length->out.getD x 0=(rep x:Nat))/\JI 1 (AW F l.length) sbT (lG0 l) l.length [(lo,a)] [] out ty ar rep d:=by
 have K:JI 1 (AW F l.length) sbT (lG0 l) l.length [] [] (ids 0 l.length) (replicate l.length 0) (l.map (·.cn)) id (λ_=>0):=by
  have I:∀x,x<l.length->(replicate l.length (0:Int)).getD x 0=0:=λx q=>by rw[bD,qz,aC q];rfl
  refine JI.init (λ_ _=>trivial) rfl ai ai (λx q=> ?_) (λx q=> ?_) (λx q=>rfl) (λx q=>(I x q).symm)
  .rw[I x q];omega
  .rw[kH q];exact hA _ (cG q)
 have L:=K.start (a:=lo) (b:=a) af G;have D:=JI.swap (wt:=[]) L;have N:JI 1 (AW F l.length) sbT (lG0 l) l.length [(lo,a)] (if lo=a then[] else[⟨(a:Int),(lo:Int)⟩]) (ids 0 l.length) (replicate l.length 0) (l.map (·.cn)) id (λ_=>0):=by
  by_cases e:lo=a
  .rw[aC e];exact JI.skip D (by simp[e])
  .rw[aA e];exact D
 have hc:=ab2 l.length id;have S:cnt l.length id *F<=l.length *F:=kC F hc;have U:(if lo=a then[] else[(⟨(a:Int),(lo:Int)⟩:dN)]).length<=1:=by split<;>simp
 obtain⟨out,ar,rep,d,O,P,ty,Q⟩:=h451_11 z af (cnt l.length id) 1 0 (if lo=a then[] else[⟨(a:Int),(lo:Int)⟩]) (ids 0 l.length) (l.map (·.cn)) id _ (aQ _) af af af (λx q=>KS q) N;refine⟨out,ty,ar,rep,d,?_,P,Q⟩;refine e451 ?_;rw[c449 z,ak,b9 ⟨af,by omega,by omega,af⟩,aS];have:=h451_5 z w G O l.length 0 af;rw[aA af,zL,fN,dU] at this;exact this
def c450 {n x y:Nat} (hn:n<=1000000) (D:x<n) (G:y<n):f450 (ids 0 n) x y=some (Ol (min x y:Nat) (max x y:Nat) (ids 0 n)):=by
 have q:∀{R:Type} {z:Nat} (w:Int->Option R),z<n->bp (ids 0 n) (z:Int) w=w z:=λw I=>by rw[vG (by rw[rE];exact I)];exact aU w (KS I)
 refine e450 ?_;rw[q _ D,q _ G,q _ D,q _ G,cF _ ai (by rw[rE];omega) af,dU];have e1:(if(y:Int)<(x:Int) then(y:Int) else(x:Int))=((min x y:Nat):Int):=by split<;>omega
 have K:(if(y:Int)>(x:Int) then(y:Int) else(x:Int))=((max x y:Nat):Int):=by split<;>omega
 rw[e1,K];exact h450 (ids 0 n) [] (by rw[rE];simp;omega)
end Go.Proofs.YtacapiamkgkkjaaGreatDoor.cl.pf
namespace Go.Proofs.YtacapiamkgkkjaaGreatDoor.cl.pf
open Go Go.AM
section
variable {h:aV} {T:Nat} {sb:Int->Int->Prop} (H:HM h T sb) {l:List Node} (hn:l.length<=1000000) (htl:∀x∈l,0<=x.eF/\x.eF<(T:Int)) (AS:0<T)
variable {cl:List Int} {rep:Nat->Nat} (hcl:cl.length=l.length) (hc:∀x,x<l.length->cl.getD x 0=(rep x:Nat)) (rl:∀x,x<l.length->rep x<l.length) (rr:∀x,x<l.length->rep (rep x)=rep x)
structure TI (T:Nat) (sb:Int->Int->Prop) (l:List Node) (rep:Nat->Nat) (i:Nat) (tl:List Int):Prop where
 len:tl.length=l.length
 ok:∀c,c<l.length->rep c=c->(0<=tl.getD c 0/\tl.getD c 0<(T:Int))/\(∀x,x<i->rep x=c->sb ((lG l).ty x) (tl.getD c 0))/\∀u,0<=u->u<(T:Int)->(∀x,x<i->rep x=c->sb ((lG l).ty x) u)->sb (tl.getD c 0) u
theorem TN {x:Nat} (q:x<l.length):(lG l).ty x=l[x].eF:=kH _
theorem NT {x:Nat} (q:x<l.length):(lG l).sc x=l[x].cn.map λa=>(a.bP,a.To.toNat):=by show List.map _ _=_;simp_all
include H hn htl hcl hc rl rr
theorem h452_3:∀(k i:Nat) (tl:List Int),l.length=i+k->TI T sb l rep i tl->
  (∃G,TI T sb l rep l.length G/\∀res,F1 l cl 0 G=some res->Cf l cl (i:Int) h tl=some res)\/
  (Cf l cl (i:Int) h tl=some ([],false)/\∃c,c<l.length/\∀u,0<=u->u<(T:Int)->(∀x,x<l.length->rep x=c->sb ((lG l).ty x) u)->False):=by
 intro k;induction k with
 |zero=>intro i tl hi I;have e:i=l.length:=af;subst e;refine .inl ⟨tl,I,λres hr=>Wh ?_⟩;grind
 |succ k ih=>
  intro i tl hi I;have q:i<l.length:=af;have K:=rl i q;have Q:∀{R:Type} (L:Int->Option R),bp cl (i:Int) L=L ((rep i:Nat):Int):=λL=>by rw[vG af];exact aU L (hc i q)
  obtain⟨o1,o2,o3⟩:=I.ok (rep i) K (rr i q);have hty:=htl _ (cG q);have O:=TN q;rcases H.mt _ _ o1.1 o1.2 hty.1 hty.2 with⟨t,_,U,V,m4,m5⟩|⟨t,_,U,V⟩
  .have I2:TI T sb l rep (i+1) (tl.set (rep i) t):=by
    refine⟨by rw[iO];exact I.len,λc hcl P=> ?_⟩;rw[fI];by_cases e:rep i=c
    .subst e;rw[aC ⟨rfl,by rw[I.len];omega⟩];refine⟨H.to.rr V,λx hx w=> ?_,λu z D S=> ?_⟩
     .by_cases N:x=i
      .subst N;rw[O];exact m4
      .exact H.to.trans (o2 x af w) V
     grind
    .rw[aA (λh=>e h.1)];obtain⟨q1,q2,q3⟩:=I.ok c hcl P;refine⟨q1,λx hx w=> ?_,λu z D S=>q3 u z D λx hx w=>S x af w⟩;by_cases N:x=i
     .subst N;exact absurd w e
     .exact q2 x af w
   have step:∀r,Cf l cl ((i+1)) h (tl.set (rep i) t)=some r->Cf l cl (i) h tl=some r:=by intro r hr;refine Wh ?_;rw[cond_pos (by grind),Q,uA (by rw[I.len];omega),cR q,U,ak,cond_neg (by rfl),Q,uA (by rw[I.len];omega),bJ af];exact hr
   rcases ih _ _ af I2 with⟨G,g1,g2⟩|⟨g1,g2⟩
   .grind
   simp_all
  .refine .inr ⟨Wh ?_,_,K,λu z D S=> ?_⟩
   .rw[cond_pos (by grind),Q,uA (by rw[I.len];omega),cR q,U,ak,cond_pos (by rfl)]
   grind
omit H htl in
theorem h452_10 {tl:List Int} (hl:tl.length=l.length):∀(k i:Nat) (s:List Int),l.length=i+k->s.length=l.length->(∀x,x<l.length->s.getD x 0=if x<i then tl.getD (rep x) 0 else tl.getD x 0)->
  ∃z,F1 l cl (i:Int) s=some (z,true)/\z.length=l.length/\∀x,x<l.length->z.getD x 0=tl.getD (rep x) 0:=by
 intro k;induction k with
 |zero=>
  intro i s S K D;refine⟨s,Yy ?_,K,λx w=> ?_⟩
  .rw[cond_neg (by rw[bB];omega)]
  .rw[D x w,aC af]
 |succ k V=>
  intro i s S K D;have q:i<l.length:=af;have I:=rl i q;have Q:∀{R:Type} (G:Int->Option R),bp cl (i:Int) G=G ((rep i:Nat):Int):=λG=>by rw[vG af];exact aU G (hc i q)
  have U:s.getD (rep i) 0=tl.getD (rep i) 0:=by rw[D _ I,rr i q];split<;>rfl
  obtain⟨z,N,O,P⟩:=V (i+1) (s.set i (tl.getD (rep i) 0)) af (by rw[iO];exact K) λx w=>by
   rw[fI];by_cases e:i=x
   .subst e;rw[aC ⟨rfl,af⟩,aC af]
   .rw[aA (λh=>e h.1),D x w];by_cases L:x<i
    .rw[aC L,aC af]
    .rw[aA L,aA af]
  refine⟨z,Yy ?_,O,P⟩;rw[cond_pos (by rw[bN];omega),Q,uA af,U,uA af,aS,bJ af];exact N
include AS in
theorem c452:(∃s,f452 h l cl=some (s,true)/\s.length=l.length/\∀c,c<l.length->(0<=s.getD c 0/\s.getD c 0<(T:Int))/\s.getD c 0=s.getD (rep c) 0/\sb ((lG l).ty c) (s.getD c 0)/\∀u,0<=u->u<(T:Int)->(∀x,x<l.length->rep x=rep c->sb ((lG l).ty x) u)->sb (s.getD c 0) u)\/
  (f452 h l cl=some ([],false)/\∃c,c<l.length/\∀u,0<=u->u<(T:Int)->(∀x,x<l.length->rep x=c->sb ((lG l).ty x) u)->False):=by
 have P:∀x,x<l.length->(replicate l.length (0:Int)).getD x 0=0:=λx z=>by rw[bD,qz,aC z];rfl
 have G:TI T sb l rep 0 (replicate l.length 0):=⟨ai,λc hcl N=>by
  rw[P c hcl]
  exact⟨⟨af,af⟩,λx z=>absurd z af,λu K L _=>H.to.top K L⟩⟩
 have pre:∀r,Cf l cl 0 h (replicate l.length 0)=some r->f452 h l cl=some r:=λr O=>by refine e452 ?_;rw[b9 ⟨af,by omega,by omega,af⟩,aS];exact O
 rcases h452_3 H hn htl hcl hc rl rr l.length 0 _ af G with⟨tl,I,g⟩|⟨q,w⟩
 .obtain⟨s,q,w,D⟩:=h452_10 hn hcl hc rl rr I.len l.length 0 tl af I.len (λx _=>by rw[aA af]);refine .inl ⟨s,pre _ (g _ q),w,λc hcl=> ?_⟩;obtain⟨Q,R,S⟩:=I.ok (rep c) (rl c hcl) (rr c hcl);rw[D c hcl,D _ (rl c hcl),rr c hcl];exact⟨Q,rfl,R c hcl rfl,S⟩
 .exact .inr ⟨pre _ q,w⟩
end
section
variable {l:List Node} {F:Nat} (hn:l.length<=1000000) (hF:F<=1000000) (hA:∀x∈l,AW F l.length x.cn)
variable {cl:List Int} {rep:Nat->Nat} (hcl:cl.length=l.length) (hc:∀x,x<l.length->cl.getD x 0=(rep x:Nat)) (rl:∀x,x<l.length->rep x<l.length)
structure QI (l:List Node) (rep:Nat->Nat) (i k:Nat) (ys:List (List cD)):Prop where
 len:ys.length=l.length
 from_:∀c,c<l.length->∀a∈ys.getD c [],∃x y,l[x]? =some y/\rep x=c/\∃b∈y.cn,a=⟨b.bP,(rep b.To.toNat:Nat)⟩
 nd:∀c,c<l.length->((ys.getD c []).map (·.bP)).Nodup
 all:∀x y,l[x]? =some y->x<i->∀b∈y.cn,∃a∈ys.getD (rep x) [],a.bP=b.bP
 some_:∀y,l[i]? =some y->∀b∈y.cn.take k,∃a∈ys.getD (rep i) [],a.bP=b.bP
theorem J7 {rD:Node->List cD->Node}:∀(xs:List Node) (q:List (List cD)),xs.length=q.length->uW rD xs (q.map some)=some (List.zipWith rD xs q)
 |[],[],_=>rfl
 |x::xs,y::q,h=>by have:=J7 (rD:=rD) xs q (by simp_all);simp_all[uW]
 |[],y::q,h=>by simp at h
 |x::xs,[],h=>by simp at h
theorem qB {R:Type} {rD:Node->List cD->Node} {xs:List Node} {q:List (List cD)} (h:xs.length=q.length) (k:List Node->Option R):yz rD xs (q.map some) k=k (List.zipWith rD xs q):=by simp_all[yz,J7]
theorem Od {R:Type} {q:List (List cD)} {i:Nat} (h:i<q.length) (k:List cD->List (Option (List cD))->Option R):WZ (q.map some) i k=k (q.getD i []) ((q.map some).set i none):=by simp_all[WZ]
abbrev Hv:Node->List cD->Node:=λx z=>{ x with cn:=z }
include hA rl in
theorem QI.aw {i k:Nat} {w:List (List cD)} (I:QI l rep i k w) {c:Nat} (hcl:c<l.length):AW F l.length (w.getD c []):=by refine⟨I.nd c hcl,λa D=> ?_⟩;obtain⟨x,y,q,K,b,G,rfl⟩:=I.from_ c hcl a D;have z:=(hA y (aP q)).ok b G;refine⟨z.1,by show 0<=((rep b.To.toNat:Nat):Int);omega,?_⟩;have:=rl b.To.toNat af;show((rep b.To.toNat:Nat):Int)<_;omega
include hn hF hA hcl hc rl
theorem h453_11 {D:List Node} (hnd:D.length=l.length) {root:Int} {o8:FSt} {i:Nat} {y:Node} (G:l[i]? =some y):∀(xs:List cD) (k:Nat) (w:List (List cD)),y.cn.drop k=xs->QI l rep i k w->
  ∃L,QI l rep (i+1) 0 L/\∀res,CN l cl root ((i+1:Nat):Int) o8 D (L.map some)=some res->Cg l cl root (i:Int) ((rep i:Nat):Int) (k:Int) o8 D (w.map some)=some res:=by
 have hil:i<l.length:=(bu.1 G).1;have Q:=rl i hil;have hyA:=hA y (aP G);have hyl:=hyA.len;intro xs;induction xs with
 |nil=>
  intro k w z I;refine⟨w,⟨I.len,I.from_,I.nd,λx S hx hlt b hb=> ?_,λS K b hb=>by cases hb⟩,λres hr=>K1 ?_⟩
  .by_cases e:x=i
   .subst e;rw[G] at hx;cases hx;refine I.some_ y G b ?_;simp_all[gI,j0,z]
   .exact I.all x S hx af b hb
  .rw[jd G,bg z,au,bJ af];omega
 |cons b xs ih=>
  intro k w z I;have hb:=aP (bU z);have hbo:=hyA.ok b hb;obtain⟨t,ht⟩:=fW hbo.2.1;have htl:t<l.length:=af;have htt:b.To.toNat=t:=af;have hlt:=eM z;have hyc:=(QI.aw hA rl I Q).len;have hz:(List.zipWith Hv D w)[rep i]? =some (Hv (D.getD (rep i) default) (w.getD (rep i) [])):=by rw[List.getElem?_zipWith,aM (by omega:rep i<D.length),aM (by rw[I.len];omega:rep i<w.length),bD,bD,aM (by omega:rep i<D.length),aM (by rw[I.len];omega:rep i<w.length)];rfl
  cases e:fa (w.getD (rep i) []) b.bP with
  |some a=>
   obtain⟨ha1,ha2⟩:=Jf e
   have I2:QI l rep i (k+1) w:=⟨I.len,I.from_,I.nd,I.all,λS K U q=>by
    rw[G] at K;cases K;rw[dy,bU z] at q;rcases bf.1 q with q|q
    .exact I.some_ y G U q
    .simp at q;subst q;exact⟨a,ha1,ha2⟩⟩
   obtain⟨L,g1,g2⟩:=ih (k+1) w (aI z) I2;refine⟨L,g1,λres hr=>K1 ?_⟩;rw[jd G,aR z,aj,jd G,aK z,qB (by rw[hnd,I.len]),c476 hz (by show(w.getD (rep i) []).length<=_;omega),ak];show(bif !(fr (w.getD (rep i) []) b.bP).2 then _ else _)=_;unfold fr;rw[e,cond_neg (by rfl),aN z af];exact g2 res hr
  |none=>
   have hno:=XV e;have I2:QI l rep i (k+1) (w.set (rep i) (w.getD (rep i) []++[⟨b.bP,(rep t:Nat)⟩])):=by
    have O:rep i<w.length:=by rw[I.len];exact Q
    refine⟨by rw[iO];exact I.len,λc N a P=> ?_,λc N=> ?_,λx S hx hlt' U q=> ?_,λS K U q=> ?_⟩
    .rw[fI] at P;by_cases V:rep i=c
     .subst V;rw[aC ⟨rfl,O⟩] at P;rcases bf.1 P with P|P
      .exact I.from_ _ Q a P
      grind
     .rw[aA (λh=>V h.1)] at P;exact I.from_ c N a P
    .rw[fI];by_cases V:rep i=c
     .subst V;rw[aC ⟨rfl,O⟩,cE,gW];refine⟨I.nd _ Q,by simp,λu hu v hv=> ?_⟩;grind
     .rw[aA (λh=>V h.1)];exact I.nd c N
    .obtain⟨a,P,hf⟩:=I.all x S hx hlt' U q;grind
    .rw[G] at K;cases K;rw[fI,aC ⟨rfl,O⟩];rw[dy,bU z] at q;rcases bf.1 q with q|q
     .obtain⟨a,P,hf⟩:=I.some_ y G U q;grind
     simp_all
   obtain⟨L,g1,g2⟩:=ih (k+1) _ (aI z) I2;refine⟨L,g1,λres hr=>K1 ?_⟩;have hgt:∀{R:Type} (kk:Int->Option R),bp cl (t:Int) kk=kk ((rep t:Nat):Int):=λkk=>by rw[vG af];simp_all
   rw[jd G,aR z,aj,jd G,aK z,qB (by rw[hnd,I.len]),c476 hz (by grind),ak];show(bif !(fr (w.getD (rep i) []) b.bP).2 then _ else _)=_;have hfr:(fr (w.getD (rep i) []) b.bP).2=false:=by unfold fr;rw[e]
   rw[BG af,aS,Od (by grind),ht,hgt,cF _ af ai af,b9 ⟨af,af⟩,b9 (by grind),aN z af];simp_all[yg]
theorem h453_7 {nds:List Node} (q:nds.length=l.length) {root:Int} {N:FSt}:∀(k i:Nat) (D:List (List cD)),l.length=i+k->QI l rep i 0 D->
  ∃G,QI l rep l.length 0 G/\∀res,(bp cl root λw=>Option.bind (f436 (FSt.mk (List.zipWith Hv nds G)) w) λz=>some z)=some res->CN l cl root (i:Int) N nds (D.map some)=some res:=by
 intro k;induction k with
 |zero=>intro i D Q I;have e:i=l.length:=af;subst e;refine⟨D,I,λres S=>YA ?_⟩;rw[cond_neg ai,qB (by rw[q,I.len])];omega
 |succ k U=>
  intro i D Q I;have K:i<l.length:=af;obtain⟨V,O,g1⟩:=h453_11 hn hF hA hcl hc rl q (root:=root) (o8:=N) (aM K) _ 0 _ rfl I;obtain⟨ys2,P,g2⟩:=U _ _ af O;refine⟨_,P,λres S=>YA ?_⟩;have hg:∀{R:Type} (L:Int->Option R),bp cl (i) L=L ((rep i)):=λL=>by rw[vG af];simp_all
  grind
omit hF hA hcl hc rl in
theorem h453_3 {q:List Int} (K:q.length=l.length) {root:Int} {D:FSt} {res:FSt} (z:CN l cl root 0 D (q.map λt=>⟨t,[]⟩) ((replicate l.length []).map some)=some res):∀(k i:Nat),l.length=i+k->
  F2 l cl q root (i:Int) D ((q.take i).map λt=>⟨t,[]⟩) (replicate i (some []))=some res:=by
 intro k;induction k with
 |zero=>intro i G;have e:i=l.length:=af;subst e;refine Yz ?_;rw[cond_neg (by rw[bB];omega),gI af];rw[vi] at z;exact z
 |succ k I=>intro i G;have w:i<q.length:=af;refine Yz ?_;rw[cond_pos (by rw[bN];omega),cR w,cF _ (by rw[bI,dL];omega) ai af,bJ af];unfold yg;have:=I (i+1) af;rw[dy,aM w,vt,cE] at this;exact this
theorem c453 {types:List Int} (S:types.length=l.length) {root:Nat} (hr:root<l.length):∃g w,f453 l cl types (root:Int)=some (nU (srG g) l.length (rep root))/\g.az.length=l.length/\QI l rep l.length 0 w/\(∀c,c<l.length->g.az[c]? =some ⟨types.getD c 0,w.getD c []⟩):=by
 have U:QI l rep 0 0 (replicate l.length []):=by
  have hz:∀x,(replicate l.length ([]:List cD)).getD x []=[]:=λx=>by grind
  exact⟨ai,(λc _ a Q=>by simp_all),(λc _=>by simp_all),(λx y _ O=>absurd O af),(λy _ b V=>by cases V)⟩
 obtain⟨w,I,g⟩:=h453_7 hn hF hA hcl hc rl (nds:=types.map _) (by simp_all) l.length 0 _ af U;have K:(List.zipWith Hv (types.map λt=>(⟨t,[]⟩)) w).length=l.length:=by simp[S,I.len]
 have D:∀c,c<l.length->(List.zipWith Hv (types.map λt=>(⟨t,[]⟩)) w)[c]? =some ⟨types.getD c 0,w.getD c []⟩:=λc q=>by grind
 refine⟨_,w,?_,K,I,D⟩;refine e453 ?_;have N:Vc _:=λx O=>by
  obtain⟨c,z⟩:=gu.1 O;have q :=by have:=(bu.1 z).1;rw[K] at this;exact this
  rw[D c q] at z;cases z;have aw:=QI.aw hA rl I q;refine⟨fk aw.len hF,λa Q=> ?_⟩;have:=(aw.ok a Q).2;simp_all
 have L:∀{R:Type} (P:Int->Option R),bp cl (root) P=P ((rep root)):=λP=>by rw[vG af];simp_all
 have G:=g (nU (srG ⟨List.zipWith Hv (types.map λt=>⟨t,[]⟩) w⟩) l.length (rep root)) (by
  rw[L,c436 N (by simp_all) (by simp_all)]
  simp_all)
 exact h453_3 hn S G l.length 0 af
end
def Y3 {T F:Nat} {sb:Int->Int->Prop} (hT:TO T sb) {l:List Node} {U:Gr} {W:List (Nat×Nat)} (hA:∀x∈l,AW F l.length x.cn) (us:∀x,x<l.length->U.sc x=(lG l).sc x) (ut:∀x,x<l.length->U.ty x=(lG l).ty x)
  {out ty:List Int} {ar:List (List cD)} {rep d:Nat->Nat} (J:JI 1 (AW F l.length) sbT (lG0 l) l.length W [] out ty ar rep d) {types:List Int}
  (hty:∀c,c<l.length->(0<=types.getD c 0/\types.getD c 0<(T:Int))/\types.getD c 0=types.getD (rep c) 0/\sb ((lG l).ty c) (types.getD c 0)/\∀u,0<=u->u<(T:Int)->(∀x,x<l.length->rep x=rep c->sb ((lG l).ty x) u)->sb (types.getD c 0) u)
  {g:FSt} {ys:List (List cD)} (I:QI l rep l.length 0 ys) (hg:∀c,c<l.length->g.az[c]? =some ⟨types.getD c 0,ys.getD c []⟩):ZJ T F sb U l.length W (srG g) rep:=by
 have Q:∀c,c<l.length->Nd g c=(Ot (ys.getD c [])).map λa=>(a.bP,a.To.toNat):=λc hcl=>by unfold Nd;rw[hg c hcl]
 have R:∀c,c<l.length->tU g c=types.getD c 0:=λc hcl=>by unfold tU;rw[hg c hcl]
 have aw:∀c,c<l.length->AW F l.length (ys.getD c []):=λc hcl=>QI.aw hA J.pi.rl I hcl
 have K:∀c,c<l.length->∀p∈Nd g c,∃x y,l[x]? =some y/\rep x=c/\∃b∈y.cn,p=(b.bP,rep b.To.toNat):=λc hcl p z=>by rw[Q c hcl] at z;obtain⟨a,ha,rfl⟩:=aG.1 z;obtain⟨x,y,D,h2,b,G,rfl⟩:=I.from_ c hcl a ((xS _).2.2 a|>.1 ha);exact⟨x,y,D,h2,b,G,ai⟩
 have N:∀x y,l[x]? =some y->∀b∈y.cn,(b.bP,b.To.toNat)∈(lG l).sc x:=λx y V b G=>by obtain⟨w,e⟩:=bu.1 V;rw[NT w,e];exact aG.2 ⟨b,G,rfl⟩
 have O:∀x y,x<l.length->y<l.length->rep x=rep y->∀p∈(lG l).sc x,∀q∈(lG l).sc y,p.1=q.1->rep p.2=rep q.2:=λx y w hy V p z q hq hpq=>by obtain⟨a,ha,D,h2⟩:=J.sar x w p z;obtain⟨b,G,h3,h4⟩:=J.sar y hy q hq;rw[<-V] at G;have:=nd_uniq (J.ao _ (J.pi.rl x w)).nd ha G af;rw[h2.done,this,h4.done]
 have conv:∀{C:Gr} {m:Nat->Nat},U8 sb U l.length W C m->U8 sbT (lG0 l) l.length W C m:=λP=>⟨λ_ _=>trivial,λx w p z=>P.ar x w p (by rw[us x w];exact z),P.eq⟩
 refine⟨⟨λx w p z=> ?_,λx w=> ?_,λx w p z=> ?_,λx w=> ?_⟩,J.pi.rl,J.pi.rr,λx w p z=> ?_,⟨λx w=> ?_,λx w p z=> ?_,λp z=>(J.seq p z).done⟩,λC m hC P x w=> ?_⟩
 .obtain⟨x',y,D,_,b,G,rfl⟩:=K x w p z;have:=(hA y (aP D)).ok b G;exact J.pi.rl _ af
 .show CU (Nd g x);rw[Q x w];unfold CU;rw[ic];exact Za (aw x w).nd
 .obtain⟨x',y,D,_,b,G,rfl⟩:=K x w p z;exact((hA y (aP D)).ok b G).1
 .show 0<=tU g x/\tU g x<_;rw[R x w];exact(hty x w).1
 .obtain⟨x',y,D,_,b,G,rfl⟩:=K x w p z;have:=(hA y (aP D)).ok b G;exact J.pi.rr _ af
 .show sb _ (tU g (rep x));rw[R _ (J.pi.rl x w),ut x w,<-(hty x w).2.1];exact(hty x w).2.2.1
 .rw[us x w] at z;have hp':=z;rw[NT w] at z;obtain⟨b,G,rfl⟩:=aG.1 z;obtain⟨a,ha,haf⟩:=I.all x _ (aM w) w b G;obtain⟨x2,y2,D,h2,b2,L,rfl⟩:=I.from_ _ (J.pi.rl x w) a ha;have S:=(bu.1 D).1;have e:=O x _ w S h2.symm _ hp' _ (N _ _ D _ L) haf.symm;show(b.bP,rep _)∈Nd g _;rw[Q _ (J.pi.rl x w)];refine aG.2 ⟨_,(xS _).2.2 _|>.2 ha,?_⟩;rw[haf,aS];rw[e]
 .obtain⟨e1,_,_⟩:=J.dK C m hC (conv P);have hall:∀y,y<l.length->rep y=rep x->m y=m x:=λy hy e=>by grind
  refine⟨e1 x w,?_,λp z=> ?_⟩
  .show sb (tU g _) _;have h0:=P.ty x w;rw[R _ (J.pi.rl x w),<-(hty x w).2.1];refine(hty x w).2.2.2 _ (hT.rr h0).1 (hT.rr h0).2 λy hy e=> ?_
   rw[<-ut y hy,<-hall y hy e];exact P.ty y hy
  .obtain⟨x2,y2,D,h2,b2,L,rfl⟩:=K _ (J.pi.rl x w) p z;have S:=(bu.1 D).1;have:=P.ar _ S (b2.bP,b2.To.toNat) (by simp_all);have hb3:=(hA _ (aP D)).ok _ L;simp_all
section
variable {h:aV} {T F:Nat} {sb:Int->Int->Prop} (H:HM h T sb) {A B:FSt} (hA:Can T F A) (hB:Can T F B) (hF:F<=300) (hn:A.az.length+B.az.length<=1000000)
include H hA hB hF hn
theorem c440:(∃f,f440 h A B=some (f,true)/\Lub T F sb A B f)\/(f440 h A B=some (⟨[]⟩,false)/\∀C,Can T F C->Le sb A C->Le sb B C->False):=by
 have N:(A.az++B.az.map (QH A.az.length)).length=A.az.length+B.az.length:=ai;have g1:f448 A.az B.az=some (A.az++B.az.map (QH A.az.length)):=c448 hn (hB.small af af);have z:∀x,(q:x<A.az.length)->(A.az++B.az.map (QH A.az.length))[x]? =some A.az[x]:=λx q=>by rw[fM q,aM q]
 have D:∀x,(q:x<A.az.length+B.az.length)->(w:¬x<A.az.length)->(A.az++B.az.map (QH A.az.length))[x]? =some (QH A.az.length (B.az[x-A.az.length]'(by omega))):=λx q w=>by rw[e7 af,dV,aM af];rfl
 have G:∀x∈A.az++B.az.map (QH A.az.length),AW F (A.az++B.az.map (QH A.az.length)).length x.cn:=λx q=>by
  rw[N];rcases bf.1 q with q|q
  .have:=hA.ao q;exact⟨this.zW.nd,λa Q=>⟨(this.ok a Q).1,(this.ok a Q).2.1,by have:=(this.ok a Q).2.2;omega⟩⟩
  .obtain⟨y,hy,rfl⟩:=aG.1 q;exact((hB.ao hy).sh af).aw
 have htl:∀x∈A.az++B.az.map (QH A.az.length),0<=x.eF/\x.eF<(T:Int):=λx q=>by
  rcases bf.1 q with q|q
  .exact hA.tyr q
  .obtain⟨y,hy,rfl⟩:=aG.1 q;show 0<=y.eF/\_;exact hB.tyr hy
 have us:∀x,x<A.az.length+B.az.length->(r7 A B).sc x=(lG (A.az++B.az.map (QH A.az.length))).sc x:=λx q=>by
  rw[NT (by rw[N];exact q)];by_cases w:x<A.az.length
  .have e:=(bu.1 (z x w)).2;rw[e,(Bz w).1,wX w];rfl
  .have e:=(bu.1 (D x q w)).2;rw[e,(BA w).1,wX af];show _=(zj _ _).map _;rw[Y9 (hB.ao (cG _))];rfl
 have ut:∀x,x<A.az.length+B.az.length->(r7 A B).ty x=(lG (A.az++B.az.map (QH A.az.length))).ty x:=λx q=>by
  rw[TN (by rw[N];exact q)];by_cases w:x<A.az.length
  .have e:=(bu.1 (z x w)).2;rw[e,(Bz w).2,AI w]
  .have e:=(bu.1 (D x q w)).2;rw[e,(BA w).2,AI af];rfl
 have R:=hA.ne;have hb0:=hB.ne;have AS:0<T:=by have:=hA.go.tp 0 R;omega
 clear z D;generalize hL:A.az++B.az.map (QH A.az.length)=l at *;have U:l.length *F<=300000000:=by have:=ow (by omega:l.length<=1000000) hF;omega
 have g2:f449 (l.length:Int)=some (ids 0 l.length):=c449 af;have g3:f450 (ids 0 l.length) 0 (A.az.length:Int)=some (Ol ((0:Nat):Int) A.az.length (ids 0 l.length)):=by have:=c450 (n:=l.length) (x:=0) (y:=A.az.length) af af af;rw[Nat.zero_min,Nat.zero_max] at this;exact this
 obtain⟨out,ty,ar,rep,d,g4,ho,J⟩:=c451 (F:=F) (l:=l) (lo:=0) (a:=A.az.length) af af U (cO _) af G;have e0:(0:Int)=((0:Nat):Int):=rfl;rcases c452 H af htl AS J.pi.len ho J.pi.rl J.pi.rr with⟨types,P,ht1,ht2⟩|⟨P,c,hcl,V⟩
 .obtain⟨g,ys,g6,hg1,I,S⟩:=c453 (F:=F) af af G J.pi.len ho J.pi.rl ht1 (root:=0) af;have hU:=Y3 H.to G (U:=r7 A B) (λx q=>us x af) (λx q=>ut x af) J ht2 I S;have K:l.length=A.az.length+B.az.length:=N;rw[K] at hU g6;refine .inl ⟨_,e440 ?_,Si H.to hA hB hU⟩;rw[g1,ak,g2,ak,g3,ak,g4,ak,P,ak,cond_neg (by rfl),e0,g6,ak]
 .refine .inr ⟨e440 ?_,λC hC h1 h2=> ?_⟩
  .rw[g1,ak,g2,ak,g3,ak,g4,ak,P,ak,cond_pos (by rfl)]
  .obtain⟨m,_,O⟩:=Kg hA hB hC h1 h2;have K:l.length=A.az.length+B.az.length:=N;rw[<-K] at O;have conv:U8 sbT (lG0 l) l.length [(0,A.az.length)] (qS C) m:=⟨λ_ _=>trivial,λx q p hp=>O.ar x q p (by rw[us x af];exact hp),O.eq⟩
   obtain⟨e1,_,_⟩:=J.dK _ m hC.RX conv
   have L:=H.to.rr (O.ty c hcl);refine V ((qS C).ty (m c)) L.1 L.2 λx q hxc=> ?_
   have:m c=m x:=by rw[<-e1 x q,hxc]
   rw[this,<-ut x af];exact O.ty x q
end
