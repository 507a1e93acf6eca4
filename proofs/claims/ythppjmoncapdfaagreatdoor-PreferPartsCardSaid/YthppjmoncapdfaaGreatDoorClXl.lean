/- Unification by classes (the program's). -/
import Derived.Test.YthppjmoncapdfaaGreatDoorClXe
set_option linter.all false
open Go.IntKind (wrap)
open Int (toNat)
open List (length replicate)
namespace Go.Proofs.YthppjmoncapdfaaGreatDoor.cl.pf
open Go Go.AM
def E0 (G:Gr) (o:List Nat) (y:Nat):Node:=⟨G.ty y,(G.sc y).map λp=>⟨p.1,(o.idxOf p.2:Nat)⟩⟩
def EP {o q:List Nat} (h:o<+:q) {x:Nat} (w:x∈o):q.idxOf x=o.idxOf x:=by obtain⟨t,rfl⟩:=h;rw[qc,ak w]
def RX {G:Gr} {o q:List Nat} (h:o<+:q) {y:Nat} (z:∀p∈G.sc y,p.2∈o):E0 G o y=E0 G q y:=by unfold E0;congr 1;exact fQ λp w=>by rw[EP h (z p w)]
structure NO (n:Nat) (num:List Int) (o:List Nat):Prop where
 len:num.length=n
 at_:∀x,x<n->num.getD x 0=if x∈o then(o.idxOf x:Int) else-1
def NO.snoc {n:Nat} {num:List Int} {o:List Nat} (h:NO n num o) {y:Nat} (B:y<n) (w:y∉o):NO n (num.set y (o.length:Int)) (o++[y]):=by
 refine⟨by rw[gr];exact h.len,λx z=> ?_⟩;rw[fe];by_cases e:y=x
 .subst e;rw[ak ⟨rfl,by rw[h.len];exact B⟩,ak ah,qc,az w];simp
 .rw[az (λh=>e h.1),h.at_ x z];by_cases q:x∈o
  .rw[ak q,ak (by simp[q]),qc,ak q]
  .rw[az q,az (by simp[q];exact λh=>e h.symm)]
section
variable {T F n:Nat} {TL:List gA} {FL:List dg} {ty:List Int} {ar:List (List bD)} {rep d:Nat->Nat}
variable (la:ar.length=n) (lt:ty.length=n) (hao:∀x,x<n->AO F n (ar.getD x [])) (hrl:∀x,x<n->rep x<n) (hrr:∀x,x<n->rep (rep x)=rep x) (hF:F<=1000000) (hn:n<=1000000)
include hao hrl in
theorem Oh:Bd (jj ty ar rep).sc n:=λx z p w=>by obtain⟨a,q,rfl⟩:=aA.1 w;exact hrl _ (by have:=((hao x z).ok a q).2;omega)
def VB (n:Nat) (G:Gr) (rep d:Nat->Nat) (ty:List Int) (ar:List (List bD)) (res:Option (Int×List Int×List Node×List Int×List Int×List (List bD))) (z:Nat) (o B:List Nat) (out:List Node):Prop:=
 ∃q w,res=some ((z:Int),q,out++(B.drop o.length).map (E0 G B),w,ty,ar)/\NO n q B/\PI n w rep d
include la lt hao hrl hF hn
theorem Uc {k:Nat} {o:List Nat} {y:Nat} {out:List Node} (hy:y<n) (hyo:y∉o) (Q:out.length=o.length)
  (ih:∀(x:Nat) (o:List Nat) (num:List Int) (out:List Node) (B:List Int),x<n->NO n num o->PI n B rep d->Met n o->n<k+o.length->out.length=o.length->
   VB n (jj ty ar rep) rep d ty ar (f487 (x:Int) TL FL num out B ty ar) ((mG (jj ty ar rep).sc k (rep x) o).idxOf (rep x)) o (mG (jj ty ar rep).sc k (rep x) o) out):
  ∀(l:List bD) (i:Nat) (q:List Nat) (num B:List Int),(ar.getD y []).drop i=l->NO n num q->PI n B rep d->Met n q->o++[y]<+:q->n<k+q.length->
   (∀z∈q.drop (o.length+1),∀p∈(jj ty ar rep).sc z,p.2∈q)->(∀a∈(ar.getD y []).take i,rep a.To.toNat∈q)->
   ∃D G,Gg (o.length:Int) (ar.getD y []) ((ar.getD y []).length:Int) (i:Int) (((ar.getD y []).take i).map λa=>⟨a.aV,(q.idxOf (rep a.To.toNat):Nat)⟩) TL FL num ((out++[⟨ty.getD y 0,[]⟩])++(q.drop (o.length+1)).map (E0 (jj ty ar rep) q)) B ty ar=
    some ((o.length:Int),D,(out++[E0 (jj ty ar rep) (pR (jj ty ar rep).sc k (l.map λa=>(a.aV,rep a.To.toNat)) q) y])++((pR (jj ty ar rep).sc k (l.map λa=>(a.aV,rep a.To.toNat)) q).drop (o.length+1)).map (E0 (jj ty ar rep) (pR (jj ty ar rep).sc k (l.map λa=>(a.aV,rep a.To.toNat)) q)),G,ty,ar)/\
    NO n D (pR (jj ty ar rep).sc k (l.map λa=>(a.aV,rep a.To.toNat)) q)/\PI n G rep d:=by
 have hB:Bd (jj ty ar rep).sc n:=Oh hao hrl;have hal:=(hao y hy).len;intro l;induction l with
 |nil=>intro i q num B K hN hP hM L hk EJ I;refine⟨num,B,PN ?_,hN,hP⟩;rw[dA K,aj,yc aX,bf,iA (x:=⟨ty.getD y 0,[]⟩) (by rw[c7 aX,fc af,Q];simp)];have e1:(ar.getD y []).take i=ar.getD y []:=jS (oz K);rw[e1];simp only[cW,pR,List.foldl_nil];congr 4;rw[xI _ _ aX,mU _ _ af,Q,tj,tn];congr 3;unfold E0 jj;simp only[dw];rfl
 |cons a l ih2=>
  intro i q num B K hN hP hM L hk EJ I;have ha:a∈ar.getD y []:=aS (dP K);have hok:=((hao y hy).ok a ha).2;obtain⟨x,hx⟩:=iZ hok.1;have S:x<n:=af;have O:a.To.toNat=x:=af;have W:o.length+1<=q.length:=by have:=L.length_le;simpa using this
  obtain⟨D,G,f1,N1,P1⟩:=ih x q num ((out++[⟨ty.getD y 0,[]⟩])++(q.drop (o.length+1)).map (E0 (jj ty ar rep) q)) B S hN hP hM hk aX;have w:=A8 (sc:=(jj ty ar rep).sc) k (rep x) q;have U:=vZ hB k (rep x) q hM (hrl x S);obtain⟨c1,c2⟩:=uh hB k (rep x) q hM (hrl x S) hk;have hlen2:=w.length_le
  obtain⟨num2,par2,g1,g2,g3⟩:=ih2 (i+1) (mG (jj ty ar rep).sc k (rep x) q) D G (cg K) N1 P1 U (L.trans w) af (λz P p hp=>by
    by_cases h2:z∈q.drop (o.length+1)
    .exact w.subset (EJ z h2 p hp)
    .by_cases h3:z∈q
     .obtain⟨t,ht⟩:=w;rw[<-ht,tq W] at P;rcases bn.1 P with P|P
      .exact absurd P h2
      .have:=U.nd;rw[<-ht,jU] at this;exact absurd rfl (this.2.2 z h3 z P)
     .exact c2 z (tH P) h3 p hp) (λb N=>by
    rw[cS] at N;rcases bn.1 N with N|N
    .exact w.subset (I b N)
    .rw[dP K] at N;simp at N;subst N
     rw[O];exact c1)
  refine⟨num2,par2,PN ?_,?_,g3⟩
  .have V:(out++[⟨ty.getD y 0,[]⟩])++(q.drop (o.length+1)).map (E0 (jj ty ar rep) q)++((mG (jj ty ar rep).sc k (rep x) q).drop q.length).map (E0 (jj ty ar rep) (mG (jj ty ar rep).sc k (rep x) q))=
     (out++[⟨ty.getD y 0,[]⟩])++((mG (jj ty ar rep).sc k (rep x) q).drop (o.length+1)).map (E0 (jj ty ar rep) (mG (jj ty ar rep).sc k (rep x) q)):=by
    rw[eo];refine aC (λz=>(out++[(⟨ty.getD y 0,[]⟩:Node)])++z) ?_;have e1:(q.drop (o.length+1)).map (E0 (jj ty ar rep) q)=(q.drop (o.length+1)).map (E0 (jj ty ar rep) (mG (jj ty ar rep).sc k (rep x) q)):=
     fQ λz P=>RX w (EJ z P)
    rw[e1,<-bw];refine aC (List.map _) ?_;obtain⟨t,ht⟩:=w;rw[<-ht,List.drop_left,tq W]
   have R:(((ar.getD y []).take i).map λa=>(⟨a.aV,(q.idxOf (rep a.To.toNat):Nat)⟩:bD))++[⟨a.aV,((mG (jj ty ar rep).sc k (rep x) q).idxOf (rep x):Nat)⟩]=
     ((ar.getD y []).take (i+1)).map λa=>(⟨a.aV,((mG (jj ty ar rep).sc k (rep x) q).idxOf (rep a.To.toNat):Nat)⟩:bD):=by
    rw[cS,dP K,bw];rw[fQ (g:=λa=>(⟨a.aV,((mG (jj ty ar rep).sc k (rep x) q).idxOf (rep a.To.toNat):Nat)⟩:bD)) λb N=>by rw[EP w (I b N)]];simp[O]
   have hlt:=iL K;rw[cN K,ai,bN K,hx,f1,Bq,cu _ (by rw[aR,gB];omega) ah af,dF K af,V];have:=R;rw[this,g1];simp only[aK,pR,ia,O]
  .simp only[aK,pR,ia,O];exact g2
include hrr in
theorem h487:∀(k x:Nat) (o:List Nat) (num:List Int) (out:List Node) (par:List Int),x<n->NO n num o->PI n par rep d->Met n o->n<k+o.length->out.length=o.length->
  VB n (jj ty ar rep) rep d ty ar (f487 (x:Int) TL FL num out par ty ar) ((mG (jj ty ar rep).sc k (rep x) o).idxOf (rep x)) o (mG (jj ty ar rep).sc k (rep x) o) out:=by
 have hB:Bd (jj ty ar rep).sc n:=Oh hao hrl;intro k;induction k with
 |zero=>intro x o num out par hx L hP N hk _;have:=uw N.nd N.lt;omega
 |succ k ih=>
  intro x o num out par hx L hP N hk D;obtain⟨K,f1,P1⟩:=TA (TL:=TL) (FL:=FL) (ty:=ty) (ar:=ar) hx hP;have B:=hrl x hx;have w:rep x<num.length:=by rw[L.len];exact B
  have htl:rep x<ty.length:=by rw[lt];exact B
  have V:rep x<ar.length:=by rw[la];exact B
  have hol:=uw N.nd N.lt;by_cases q:rep x∈o
  .have R:mG (jj ty ar rep).sc (k+1) (rep x) o=o:=by rw[mG,ak q]
   rw[R];refine⟨num,K,e487 ?_,L,P1⟩;rw[f1,iy,AZ w,L.at_ _ B,ak q,cond_pos (by rw[bG];omega),AZ w,L.at_ _ B,ak q];simp
  .have R:mG (jj ty ar rep).sc (k+1) (rep x) o=pR (jj ty ar rep).sc k ((ar.getD (rep x) []).map λa=>(a.aV,rep a.To.toNat)) (o++[rep x]):=by rw[mG,az q];rfl
   have U:=N.snoc B q;obtain⟨P,Q,S,g2,g3⟩:=Uc (TL:=TL) (FL:=FL) (d:=d) la lt hao hrl hF hn B q D ih (ar.getD (rep x) []) 0 (o++[rep x]) (num.set (rep x) (o.length:Int)) K rfl (L.snoc B q) P1 U (j5 _) (by simp only[cC,iY];omega)
    (λz hz=>by rw[tu ah] at hz;cases hz) (λb hb=>by cases hb)
   rw[R];have G:=vF (sc:=(jj ty ar rep).sc) k ((ar.getD (rep x) []).map λa=>(a.aV,rep a.To.toNat)) (o++[rep x]);generalize pR (jj ty ar rep).sc k ((ar.getD (rep x) []).map λa=>(a.aV,rep a.To.toNat)) (o++[rep x])=I at *;have W:I.idxOf (rep x)=o.length:=by rw[EP G ah,qc,az q];simp
   refine⟨P,Q,e487 ?_,g2,g3⟩;rw[f1,iy,AZ w,L.at_ _ B,az q,cond_neg (by rfl),AZ w,AZ htl,cu _ af ah af,WM V,bf,D,W];rw[tu ah,cW,eT,List.take_zero,cW] at S;have e0:((0:Nat):Int)=0:=rfl;rw[e0] at S;rw[S];have O:(out++[E0 (jj ty ar rep) I (rep x)])++(I.drop (o.length+1)).map (E0 (jj ty ar rep) I)=out++(I.drop o.length).map (E0 (jj ty ar rep) I):=by
    have e2:I.drop o.length=rep x::I.drop (o.length+1):=by obtain⟨t,ht⟩:=G;rw[<-ht,eo,List.drop_left,<-eo,tq ah,tu ah];rfl
    rw[e2,aK,eo];rfl
   rw[O]
theorem h444 {root:Nat} {f0:FSt} {o5:List Int} {res:FSt×List Int×List Int×List (List bD)} {par:List Int}:∀(k i:Nat),n=i+k->
  (GD (f487 (root:Int) TL FL (replicate n (-1)) ([]:List Node) par ty ar) λI G q w z B=>some ((FSt.mk q),w,z,B))=some res->
  Gb (root:Int) (n:Int) (i:Int) f0 (replicate i (-1)++replicate k 0) o5 TL FL par ty ar=some res:=by
 intro k;induction k with
 |zero=>
  intro i K D;refine PJ ?_
  have:i=n:=af
  subst this;rw[cond_neg (by rw[bM];omega),xU,eT];exact D
 |succ k L=>
  intro i K D;refine PJ ?_;have hl:i<(replicate i (-1:Int)++replicate (k+1) 0).length:=ah;rw[cond_pos (by rw[bG];omega),AZ hl,bf,cQ af];have e:(replicate i (-1:Int)++replicate (k+1) 0).set i (-1)=replicate (i+1) (-1)++replicate k 0:=by rw[mU _ _ ah,kZ,tj,zO,tn,nk];simp
  rw[e];exact L (i+1) af D
include hrr in
theorem c444 {root:Nat} {par:List Int} (B:root<n) (P:PI n par rep d):∃q,f444 (root:Int) TL FL par ty ar=some (jG (jj ty ar rep) n (rep root),q,ty,ar):=by
 have z:NO n (replicate n (-1)) []:=⟨ah,λx D=>by rw[az ah,bQ,ja,ak D];rfl⟩
 obtain⟨w,q,f1,_,_⟩:=h487 (TL:=TL) (FL:=FL) (d:=d) la lt hao hrl hrr hF hn (n+1) root [] (replicate n (-1)) [] par B z P Met.nil ah rfl;refine⟨q,e444 ?_⟩;rw[bJ ⟨af,by omega,by rw[P.len];omega,by rw[P.len];omega⟩,P.len,bf,kZ];have:=h444 (TL:=TL) (FL:=FL) (root:=root) (f0:=⟨[]⟩) (o5:=[]) (par:=par) la lt hao hrl hF hn n 0 af (by rw[f1,Bq]);rw[xU,er] at this;exact this
end
end Go.Proofs.YthppjmoncapdfaaGreatDoor.cl.pf
namespace Go.Proofs.YthppjmoncapdfaaGreatDoor.cl.pf
open Go Go.AM
def IL (k:Nat) (l:List bD):List bD:=l.map λa=>⟨a.aV,a.To+k⟩
def ids (s k:Nat):List Int:=(List.range' s k).map λ(x:Nat)=>(x:Int)
def OY (s k:Nat):ids s (k+1)=(s:Int)::ids (s+1) k:=by simp[ids,List.range'_succ]
def yt (s k:Nat):(ids s k).length=k:=by simp[ids]
def LC (s k j:Nat):ids s k++ids (s+k) j=ids s (k+j):=by unfold ids;rw[<-bw,List.range'_append_1]
def OX {k x:Nat} (h:x<k):(ids 0 k).getD x 0=(x:Int):=by unfold ids;rw[bQ,dz,List.getElem?_range' af];simp
section
variable {TL:List gA} {FL:List dg}
def T7 {z:Nat} {l:List Node} {n v:Int} {q:List bD} {x:Node} {B ty:List Int} {ar:List (List bD)} {res:Unit×List Int×List Int×List (List bD)} (hf:z<=1000000) (hl:q.length<=1000000) (G:∀a∈q,0<=a.To/\a.To<=1000000) (I:ar.length<=100000000):
  ∀(xs:List bD) (i:Nat),q.drop i=xs->CG z l n (wrap .i64 (v+1)) TL FL B ty (ar++[IL z q])=some res->
   Ga z l n v q (q.length:Int) (i:Int) x (IL z (q.take i)) TL FL B ty ar=some res:=by
 intro xs;induction xs with
 |nil=>intro i w D;refine PG ?_;rw[dA w,aj,cu _ af ah af,jS (oz w)];exact D
 |cons a xs L=>
  intro i w D;refine PG ?_;have N:=G a (aS (dP w));have K:=iL w;rw[cN w,ai,bN w,cu _ (by unfold IL;rw[aR,gB];omega) ah af,dF w af,jM af af];have e:IL z (q.take i)++[⟨a.aV,a.To+z⟩]=IL z (q.take (i+1)):=by rw[cS,dP w];simp[IL]
  rw[e];exact L (i+1) (cg w) D
def T6 {w:Nat} {l:List Node} (hf:w+l.length<=1000000) (hl:∀x∈l,x.cG.length<=1000000/\∀a∈x.cG,0<=a.To/\a.To<=1000000):∀(xs:List Node) (i:Nat) (q ty:List Int) (ar:List (List bD)),l.drop i=xs->q.length<=w+i->ty.length<=w+i->ar.length<=w+i->
  CG (w:Int) l (l.length:Int) (i:Int) TL FL q ty ar=some ((),q++ids (w+i) xs.length,ty++xs.map (·.ef),ar++xs.map λx=>IL w x.cG):=by
 intro xs;induction xs with
 |nil=>intro i q ty ar z _ _ _;refine PF ?_;rw[dA z,aj];simp[ids]
 |cons x xs G=>intro i q ty ar z I K L;have B:=hl x (aS (dP z));have D:=iL z;refine PF ?_;rw[cN z,ai,bN z,cu _ af ah af,cu _ af ah af,jM af af];refine T7 af B.1 B.2 af x.cG 0 rfl ?_;rw[dF z af,G (i+1) _ _ _ (cg z) aX aX aX,aT,OY];have e:(w:Int)+(i:Int)=((w+i:Nat):Int):=af;rw[e];simp[jP]
def Ty {l:List Node} {q ty:List Int} {ar:List (List bD)} {fr:Nat} (w:q.length=fr) (B:ty.length=fr) (z:ar.length=fr) (hf:fr+l.length<=1000000) (hl:∀x∈l,x.cG.length<=1000000/\∀a∈x.cG,0<=a.To/\a.To<=1000000):
  f442 l TL FL q ty ar=some ((),q++ids fr l.length,ty++l.map (·.ef),ar++l.map λx=>IL fr x.cG):=by
 refine e442 ?_;rw[w];exact T6 hf hl l 0 q ty ar rfl af af af
end
def JI.init {T n:Nat} {Q:List bD->Prop} {sb:Int->Int->Prop} {U:Gr} {z ty:List Int} {ar:List (List bD)} (K:∀{a},0<=a->a<(T:Int)->sb a a) (w:z=ids 0 n) (N:ty.length=n) (L:ar.length=n) (B:∀x,x<n->0<=ty.getD x 0/\ty.getD x 0<(T:Int)) (ao:∀x,x<n->Q (ar.getD x []))
  (G:∀x,x<n->U.sc x=(ar.getD x []).map λa=>(a.aV,a.To.toNat)) (I:∀x,x<n->U.ty x=ty.getD x 0):JI T Q sb U n [] [] z ty ar id (λ_=>0):=by
 subst w;refine⟨⟨yt _ _,λx q=>⟨x,q,OX q,rfl, .inl rfl⟩,λx q=>by rw[OX q];simp,λx q=>q,λx _=>rfl⟩,N,L,B,ao,(λp w=>by cases w),λx q=> ?_,λx q p w=> ?_,(λp w=>by cases w),λC m O D=>⟨λx _=>rfl,λx q _=>⟨?_,λa h=> ?_⟩,(λp w=>by cases w)⟩⟩
 .rw[I x q];exact K (B x q).1 (B x q).2
 .rw[G x q] at w;obtain⟨a,h,rfl⟩:=aA.1 w;exact⟨a,h,rfl, .zo rfl⟩
 .rw[<-I x q];exact D.ty x q
 .exact D.ar x q (a.aV,a.To.toNat) (by rw[G x q];exact aA.2 ⟨a,h,rfl⟩)
def Can.ao {T F:Nat} {f:FSt} (h:Can T F f) {x:Node} (G:x∈f.au):AO F (f.au.length) x.cG:=by
 obtain⟨i,B⟩:=fG.1 G;have q:i<f.au.length:=(bp.1 B).1;have w:f.au[i]=x:=(bp.1 B).2;have e:j9 f i=NB x:=by rw[zB q,w]
 refine⟨?_,λa z=> ?_⟩
 .have:=h.x5 i;rw[e] at this;unfold vK NB at this;rw[fR] at this;exact this
 .have D:(a.aV,a.To.toNat)∈j9 f i:=by rw[e];exact aA.2 ⟨a,z,rfl⟩
  have I:=h.go.ft i q _ D;have K:=h.bd i q _ D;have L:=h.nn G z;exact⟨I,L,by simp only at K;omega⟩
def Can.tyr {T F:Nat} {f:FSt} (h:Can T F f) {x:Node} (B:x∈f.au):0<=x.ef/\x.ef<(T:Int):=by
 obtain⟨i,z⟩:=fG.1 B;have q:i<f.au.length:=(bp.1 z).1;have w:f.au[i]=x:=(bp.1 z).2;have:=h.go.tp i q;have e:(mC f).ty i=x.ef:=by show qT f i=_;rw[vD q,w]
 rwa[e] at this
def AO.sh {F n k N:Nat} {l:List bD} (h:AO F n l) (z:n+k<=N):AO F N (IL k l):=by
 refine⟨?_,λa q=> ?_⟩
 .unfold y7 IL;rw[fR];exact h.x5
 .obtain⟨b,w,rfl⟩:=aA.1 q;have:=h.ok b w;exact⟨this.1,by show 0<=b.To+(k:Int);omega,by show b.To+(k:Int)<(N:Int);omega⟩
def Tm {F n k:Nat} {l:List bD} (h:AO F n l):((IL k l).map λa=>(a.aV,a.To.toNat))=(l.map λa=>(a.aV,a.To.toNat)).map λp=>(p.1,p.2+k):=by
 unfold IL;rw[dw,dw];refine fQ λa q=> ?_
 have:=(h.ok a q).2;show(a.aV,(a.To+(k:Int)).toNat)=(a.aV,a.To.toNat+k)
 congr 1;omega
def ry {q w:Type} {l:List q} {g:q->w} {i:Nat} {d:w} (h:i<l.length):(l.map g).getD i d=g l[i]:=by rw[bQ,dz,aW h];rfl
def JR {q:Type} {l m:List q} {i:Nat} {d:q} (h:i<l.length):(l++m).getD i d=l.getD i d:=by rw[bQ,bQ,c7 h]
def JS {q:Type} {l m:List q} {i:Nat} {d:q} (h:l.length<=i):(l++m).getD i d=m.getD (i-l.length) d:=by rw[bQ,bQ,fc h]
def Can.small {T F:Nat} {f:FSt} (h:Can T F f) (hn:f.au.length<=1000000) (hF:F<=1000000):∀x∈f.au,x.cG.length<=1000000/\∀a∈x.cG,0<=a.To/\a.To<=1000000:=λx w=>by have:=h.ao w;exact⟨cV this.len hF,λa q=>by have:=(this.ok a q).2;omega⟩
end Go.Proofs.YthppjmoncapdfaaGreatDoor.cl.pf
namespace Go.Proofs.YthppjmoncapdfaaGreatDoor.cl.pf
open Go Go.AM
def oq (x:bD):List bD->List bD
 |[]=>[x]
 |y::l=>if y.aV<=x.aV then y::oq x l else x::y::l
def Ct (l:List bD):List bD:=l.foldl (λo x=>oq x o) []
def Ee (l:List bD):Prop:=l.Pairwise λa b=>a.aV<=b.aV
def BS {x a:bD}:∀{l:List bD},a∈oq x l↔a=x\/a∈l
 |[]=>by simp[oq]
 |y::l=>by
  unfold oq;split
  .rw[aD,BS,aD];constructor
   .rintro (h|h|h)
    .exact .inr (.inl h)
    .exact .inl h
    .exact .inr (.inr h)
   .rintro (h|h|h)
    .exact .inr (.inl h)
    .exact .inl h
    .exact .inr (.inr h)
  .simp
def BR {x:bD}:∀{l:List bD},(oq x l).length=l.length+1
 |[]=>rfl
 |y::l=>by unfold oq;split<;>simp[BR]
def BT {x:bD}:∀{l:List bD},Ee l->Ee (oq x l)
 |[],_=>xV _ _
 |y::l,h=>by
  have w:=c9.1 h;unfold oq;split
  .rename_i z;refine c9.2 ⟨λa q=> ?_,BT w.2⟩;rcases BS.1 q with rfl|q
   .exact z
   .exact w.1 a q
  .rename_i B;refine c9.2 ⟨λa q=> ?_,h⟩;rcases aD.1 q with rfl|q
   .omega
   .have:=w.1 a q;omega
def BQ {x:bD} {w:List bD} (z:∀a∈w,x.aV<a.aV):∀{u:List bD},(∀a∈u,a.aV<=x.aV)->oq x (u++w)=u++[x]++w
 |[],_=>by cases w with
  |nil=>rfl
  |cons y w=>show oq x (y::w)=_;unfold oq;rw[az (by have:=z y (by simp);omega)];rfl
 |y::u,q=>by show oq x (y::(u++w))=_;unfold oq;rw[ak (q y ah),BQ z λa B=>q a (by simp[B])];rfl
def oI:∀(l:List bD),Ee (Ct l)/\(Ct l).length=l.length/\∀a,a∈Ct l↔a∈l:=by
 intro l;unfold Ct;have key:∀(l o:List bD),Ee o->Ee (l.foldl (λo x=>oq x o) o)/\(l.foldl (λo x=>oq x o) o).length=o.length+l.length/\∀a,a∈l.foldl (λo x=>oq x o) o↔a∈o\/a∈l:=by intro l;induction l with
  |nil=>intro o h;exact⟨h,rfl,λa=>by simp⟩
  |cons x l B=>
   intro o h;obtain⟨q,w,z⟩:=B (oq x o) (BT h);refine⟨q,by rw[ia,w,BR,aT];omega,λa=> ?_⟩;rw[ia,z a,BS,aD];constructor
   .rintro ((h|h)|h)
    .exact .inr (.inl h)
    .exact .inl h
    .exact .inr (.inr h)
   .rintro (h|h|h)
    .exact .inl (.inr h)
    .exact .inl (.inl h)
    .exact .inr h
 have:=key l [] List.Pairwise.nil;exact⟨this.1,by simpa using this.2.1,λa=>by simpa using this.2.2 a⟩
def UX {l:List bD} (h:y7 l):Ct l=l:=by
 have key:∀(l o:List bD),y7 (o++l)->l.foldl (λo x=>oq x o) o=o++l:=by intro l;induction l with
  |nil=>intro o _;simp
  |cons x l w=>
   intro o h;have e:oq x o=o++[x]:=by
    have:=BQ (x:=x) (w:=[]) (λa q=>by cases q) (u:=o) (λa q=>by
     unfold y7 at h;rw[mZ] at h
     have:=h.2.2 a q x (by simp);omega)
    simpa using this
   rw[ia,e,w (o++[x]) (by simpa using h)];simp
 exact key l [] (by simpa using h)
def L5 {l:List bD} (h:(l.map (·.aV)).Nodup):y7 (Ct l):=by
 obtain⟨B,_,G⟩:=oI l;have w:((Ct l).map (·.aV)).Nodup:=by
  unfold Ct;have key:∀(l o:List bD),((o++l).map (·.aV)).Nodup->((l.foldl (λo x=>oq x o) o).map (·.aV)).Nodup:=by intro l;induction l with
   |nil=>intro o h;simpa using h
   |cons x l D=>
    intro o h;rw[ia];refine D _ ?_;have q:∀o:List bD,((oq x o).map (·.aV)).Perm ((o++[x]).map (·.aV)):=by intro o;induction o with
     |nil=>exact List.Perm.refl _
     |cons y o z=>
      unfold oq;split
      .simp only[aK,eM];exact List.Perm.cons _ z
      .simp only[aK,eM]
       have:((y::o)++[x]).map (λa:bD=>a.aV)=(y::o).map (λa:bD=>a.aV)++[x.aV]:=ah
       simp only[aK,eM] at this;rw[this];exact(List.perm_append_singleton x.aV (y.aV::o.map λa=>a.aV)).symm
    have:((o++x::l).map (·.aV))=(o++[x]).map (·.aV)++l.map (·.aV):=ah
    rw[this] at h;rw[bw];exact((q o).append_right _).nodup_iff.2 h
  exact key l [] (by simpa using h)
 unfold y7;unfold Ee at B;unfold List.Nodup at w;rw[fR] at w;exact(B.and w).imp λ{a b} h=>by have:=h.1;have:=h.2;omega
def Ub {l:List bD} {i:Nat} {x:bD} {res:List bD} (L:l[i]? =some x) (hl:l.length<=1000000) {o:List bD} (S:o.length<=1000000) (N:Ee o)
  (P:uf l ((i+1:Nat):Int) (oq x o)=some res):∀(v:Nat),v<=o.length->(∀a∈o.drop v,x.aV<a.aV)->A7 l (i:Int) (v:Int) o=some res:=by
 have R:i<l.length:=(bp.1 L).1;have fin:∀(v:Nat),v<=o.length->(∀a∈o.drop v,x.aV<a.aV)->(∀a∈o.take v,a.aV<=x.aV)->
   check (0<=(v:Int)/\(v:Int)<=((o.length:Nat):Int)) (
   check ((length ([]:List bD)+length ((o.take (toNat (v:Int))).drop 0)) *16<=140737488355328/\length ([]:List bD)+length ((o.take (toNat (v:Int))).drop 0)<=4611686018427387904) (
   bF l (i:Int) λq=>
   check ((length (([]:List bD)++((o.take (toNat (v:Int))).drop 0))+length [q]) *16<=140737488355328/\length (([]:List bD)++((o.take (toNat (v:Int))).drop 0))+length [q]<=4611686018427387904) (
   check (0<=(v:Int)/\(v:Int)<=((o.length:Nat):Int)) (
   check ((length ((([]:List bD)++((o.take (toNat (v:Int))).drop 0))++[q])+length ((o.take (length o)).drop (toNat (v:Int)))) *16<=140737488355328/\length ((([]:List bD)++((o.take (toNat (v:Int))).drop 0))++[q])+length ((o.take (length o)).drop (toNat (v:Int)))<=4611686018427387904) (
   uf l (wrap .i64 ((i:Int)+1)) (((([]:List bD)++((o.take (toNat (v:Int))).drop 0))++[q])++((o.take (length o)).drop (toNat (v:Int)))))))))=some res:=by
  intro v I B O;have e:(o.take v++[x])++o.drop v=oq x o:=by have:=BQ (x:=x) B O;rw[kX] at this;exact this.symm
  rw[bJ ⟨af,af⟩,bf,List.drop_zero,cu _ ah (by rw[gB];omega) af,ff L,er,cu _ (by rw[gB];omega) ah af,bJ ⟨af,af⟩,fF,cu _ aX aX af,e,cQ af];exact P
 intro v;induction v with
 |zero=>intro I B;refine LM ?_;rw[cond_neg (by rfl)];exact fin 0 I B (λa w=>by cases w)
 |succ v Q=>
  intro I B;refine LM ?_;have z:v<o.length:=I;rw[cond_pos (by rw[bG];omega),D7 af,yc z,bf,RF z,ff L];by_cases hc:x.aV<o[v].aV
  .rw[cond_pos (by rw[bG];exact hc)];refine Q af λa w=> ?_
   rw[List.drop_eq_getElem_cons z] at w;rcases aD.1 w with rfl|w
   .exact hc
   .exact B a w
  .rw[cond_neg (by rw[bM];exact hc)];refine fin (v+1) I B λa w=> ?_
   rw[cS,aW z] at w;unfold Ee at N;rcases bn.1 w with w|w
   .obtain⟨j,D⟩:=fG.1 w;rw[mI] at D;split at D
    .rename_i K;have G:j<o.length:=af;rw[aW G] at D;cases D;have:=tv.1 N j v G z K;omega
    .cases D
   .simp at w;subst w;omega
def h463 {l:List bD} (hl:l.length<=1000000):∀(xs:List bD) (i:Nat) (o:List bD),l.drop i=xs->Ee o->o.length<=i->uf l (i:Int) o=some (xs.foldl (λo x=>oq x o) o):=by intro xs;induction xs with
 |nil=>intro i o q _ _;refine LL ?_;rw[dA q,aj];rfl
 |cons x xs D=>intro i o q z G;have B:=iL q;refine LL ?_;rw[cN q,ai];refine Ub (dP q) hl af z ?_ o.length (aJ _) (λa w=>by rw[List.drop_length] at w;cases w);exact D (i+1) (oq x o) (cg q) (BT z) (by rw[BR];omega)
def VM {l:List bD} (hl:l.length<=1000000):f463 l=some (Ct l):=e463 (h463 hl l 0 [] rfl List.Pairwise.nil (aJ _))
def Au (f:FSt) (n:Nat):List (Int×Nat):=match f.au[n]? with
 |some x=>(Ct x.cG).map λa=>(a.aV,a.To.toNat)
 |none=>[]
def y6 (f:FSt):Gr:=⟨Au f,qT f⟩
def I7 (f:FSt):Prop:=∀x∈f.au,x.cG.length<=1000000/\∀a∈x.cG,0<=a.To/\a.To<(f.au.length:Int)
def vz {f:FSt} {n:Nat} (h:n<f.au.length):Au f n=(Ct f.au[n].cG).map λa=>(a.aV,a.To.toNat):=by unfold Au;rw[aW h]
def FA {f:FSt} (h:I7 f):Bd (y6 f).sc f.au.length:=λn hn p q=>by have q:p∈Au f n:=q;rw[vz hn] at q;obtain⟨a,w,rfl⟩:=aA.1 q;have:=(h _ (bH hn)).2 a ((oI _).2.2 a|>.1 w);show a.To.toNat<_;omega
def tU (o:List Nat):List Int:=o.map λ(x:Nat)=>(x:Int)
section
variable {f:FSt} (hf:I7 f) (hn:f.au.length<=1000000)
include hf hn
theorem Ua {k:Nat} (ih:∀(x:Nat) (o:List Nat) (num:List Int),x<f.au.length->x∉o->NO f.au.length num o->Met f.au.length o->f.au.length<k+o.length->
   ∃q,f455 (x:Int) f.au num (tU o)=some ((),q,tU (mG (Au f) k x o))/\NO f.au.length q (mG (Au f) k x o)) {VE:List bD} (has:VE.length<=1000000) (Q:∀a∈VE,0<=a.To/\a.To<(f.au.length:Int)):
  ∀(xs:List bD) (i:Nat) (o:List Nat) (num:List Int),VE.drop i=xs->NO f.au.length num o->Met f.au.length o->f.au.length<k+o.length->
   ∃q,CJ VE (i:Int) f.au num (tU o)=some ((),q,tU (pR (Au f) k (xs.map λa=>(a.aV,a.To.toNat)) o))/\NO f.au.length q (pR (Au f) k (xs.map λa=>(a.aV,a.To.toNat)) o):=by
 intro xs;induction xs with
 |nil=>intro i o num w B _ _;refine⟨num,Ka ?_,B⟩;rw[dA w,aj];rfl
 |cons a xs G=>
  intro i o num w B O U;have ha:=Q a (aS (dP w));obtain⟨x,R⟩:=iZ ha.1;have z:x<f.au.length:=af;have S:a.To.toNat=x:=af;have hlt:=iL w;have D:x<num.length:=by rw[B.len];exact z
  simp only[aK,pR,ia,S];by_cases K:x∈o
  .have ev:mG (Au f) k x o=o:=by
    cases k with
    |zero=>rfl
    |succ k=>rw[mG,ak K]
   rw[ev];obtain⟨q,L,N⟩:=G (i+1) o num (cg w) B O U;refine⟨q,Ka ?_,N⟩;rw[cN w,ai,bN w,R,AZ D,B.at_ x z,ak K,cond_neg (by rw[bM];omega),dF w af];exact L
  .obtain⟨I,f1,W⟩:=ih x o num z K B O U;have P:=vZ (FA hf) k x o O z;have V:=Gk (sc:=Au f) k x o;obtain⟨q,L,N⟩:=G (i+1) _ I (cg w) W P af;refine⟨q,Ka ?_,N⟩;rw[cN w,ai,bN w,R,AZ D,B.at_ x z,az K,cond_pos (by rfl),bN w,R,f1,Bp,dF w af];exact L
theorem h455:∀(k x:Nat) (o:List Nat) (num:List Int),x<f.au.length->x∉o->NO f.au.length num o->Met f.au.length o->f.au.length<k+o.length->
  ∃q,f455 (x:Int) f.au num (tU o)=some ((),q,tU (mG (Au f) k x o))/\NO f.au.length q (mG (Au f) k x o):=by
 intro k;induction k with
 |zero=>intro x o num _ _ _ z R;have:=uw z.nd z.lt;omega
 |succ k U=>
  intro x o num B w K z R;have G:x<num.length:=by rw[K.len];exact B
  have S:=uw z.nd z.lt;obtain⟨D,I⟩:=hf _ (bH B);obtain⟨s1,s2,V⟩:=oI f.au[x].cG;obtain⟨q,O,P⟩:=Ua hf hn U (VE:=Ct f.au[x].cG) (by rw[s2];exact D) (λa Q=>I a ((V a).1 Q)) (Ct f.au[x].cG) 0 (o++[x]) (num.set x (o.length:Int)) rfl (K.snoc B w) (z.snoc B w) (by simp only[cC,iY];omega);have N:mG (Au f) (k+1) x o=pR (Au f) k ((Ct f.au[x].cG).map λa=>(a.aV,a.To.toNat)) (o++[x]):=by rw[mG,az w,vz B]
  rw[N];refine⟨q,e455 ?_,P⟩;rw[AZ G,cu _ (by unfold tU;rw[aR];omega) ah af,eY B,VM D,aI,bf];have e:tU o++[(x:Int)]=tU (o++[x]):=by simp[tU]
  have L:((tU o).length:Int)=(o.length:Int):=by simp[tU]
  rw[e,L];exact O
theorem RH {i:Nat} {O P:FSt} {x:Node} {nd z q:List Node} {num w:List Int} {o:List Nat} (L:NO f.au.length num o) (S:z.length<=1000000) {res:FSt}:∀(xs done:List bD),done.length+xs.length<=1000000->(∀a∈xs,0<=a.To/\a.To<(f.au.length:Int)/\a.To.toNat∈o)->
  zC (wrap .i64 ((i:Int)+1)) O P nd (z++[⟨x.ef,done++xs.map λa=>⟨a.aV,(o.idxOf a.To.toNat:Nat)⟩⟩]) q num w=some res->
  yU (i:Int) (done.length:Int) O P x nd (done++xs) z q num w=some res:=by
 intro xs;induction xs with
 |nil=>intro done hl _ B;refine HK ?_;rw[cond_neg (by rw[bM];simp),cu _ af ah af,eT];rw[cW,eT] at B;exact B
 |cons a xs W=>
  intro done hl D B;simp only[aT] at hl;obtain⟨Q,h2,K⟩:=D a ah;obtain⟨y,V⟩:=iZ Q;have G:y<f.au.length:=af;have I:a.To.toNat=y:=af;rw[I] at K;have N:∀{R:Type} (k:bD->Option R),fm (done++a::xs) done.length k=k a:=λk=>iA ah k
  refine HK ?_;rw[cond_pos (by rw[bG];simp;omega),yc ah,bf,N,V,AZ (by rw[L.len];exact G),L.at_ y G,ak K,bJ ⟨af,ah⟩,N,cQ af,mU _ _ (aJ _),tj,tn]
  have:=W (done++[⟨a.aV,(o.idxOf y:Nat)⟩]) aX (λb U=>D b (by simp[U])) (by
   rw[aK,I] at B
   rw[eo];exact B)
  rw[cC,iY,eo] at this;exact this
theorem T5 {o4:FSt} {nd pT:List Node} {num:List Int} {o:List Nat} (R:NO f.au.length num o) (G:Met f.au.length o) (EJ:∀y∈o,∀p∈Au f y,p.2∈o):
  ∀(xs:List Nat) (i:Nat) (q:List Node),o.drop i=xs->q.length<=i->zC (i:Int) f o4 nd q pT num (tU o)=some ⟨q++xs.map (E0 (y6 f) o)⟩:=by
 have U:=uw G.nd G.lt;intro xs;induction xs with
 |nil=>intro i q w _;refine PE ?_;have S:=oz w;rw[cond_neg (by rw[bM];simp[tU];omega)];simp
 |cons y xs V=>
  intro i q w Q;have z:=iL w;have D:y∈o:=aS (dP w);have B:=G.lt y D;obtain⟨I,N⟩:=hf _ (bH B);obtain⟨s1,s2,W⟩:=oI f.au[y].cG;have L:i<(tU o).length:=by simp[tU];exact z
  have K:(tU o).getD i 0=(y:Int):=by unfold tU;rw[ry z];have:=dP w;rw[aW z] at this;rw[eO this]
  refine PE ?_;rw[cond_pos (by rw[bG];omega),AZ L,K,eY B,VM I,aI];have e0:((([]:List bD).length:Nat):Int)=0:=rfl;refine RH hf hn R af (Ct f.au[y].cG) [] aX (λa P=> ?_) ?_
  .have O:=N a ((W a).1 P);refine⟨O.1,O.2,EJ y D (a.aV,a.To.toNat) ?_⟩;rw[vz B];exact aA.2 ⟨a,P,rfl⟩
  .rw[dF w af,V (i+1) _ (cg w) aX];have e:E0 (y6 f) o y=⟨f.au[y].ef,[]++(Ct f.au[y].cG).map λa=>⟨a.aV,(o.idxOf a.To.toNat:Nat)⟩⟩:=by
    show(⟨qT f y,(Au f y).map _⟩:Node)=_;rw[vD B,vz B,dw];rfl
   rw[aK,e,eo];rfl
theorem T0 {root:Nat} {o4:FSt} {nd pT:List Node} {res:FSt} (D:(GC (f455 (root:Int) nd (replicate f.au.length (-1)) []) λz q w=>zC 0 f o4 nd ([]:List Node) pT q w)=some res):
  ∀(k i:Nat),f.au.length=i+k->F9 (root:Int) (i:Int) f o4 nd pT (replicate i (-1)) []=some res:=by
 intro k;induction k with
 |zero=>intro i B;refine PD ?_;have e:i=f.au.length:=af;subst e;rw[cond_neg (by rw[bM];omega)];exact D
 |succ k G=>intro i B;refine PD ?_;rw[cond_pos (by rw[bG];omega),cu _ aX ah af,cQ af,<-nk];exact G (i+1) af
theorem c436 {root:Nat} (q:root<f.au.length):f436 f (root:Int)=some (jG (y6 f) f.au.length root):=by
 have D:NO f.au.length (replicate f.au.length (-1)) []:=⟨ah,λx I=>by rw[az ah,bQ,ja,ak I];rfl⟩
 obtain⟨z,f1,B⟩:=h455 hf hn (f.au.length+1) root [] _ q ah D Met.nil ah;have w:=FA hf;refine e436 ?_;refine T0 hf hn ?_ f.au.length 0 af
 have:tU ([]:List Nat)=[]:=rfl
 rw[this] at f1;rw[f1,Bp];have g:=T5 hf hn (o4:=⟨[]⟩) (nd:=f.au) (pT:=[]) B (rF (G:=y6 f) w q) (λy K p G=>vf (G:=y6 f) w q K G) _ 0 [] rfl (aJ _);exact g
end
end Go.Proofs.YthppjmoncapdfaaGreatDoor.cl.pf
namespace Go.Proofs.YthppjmoncapdfaaGreatDoor.cl.pf
open Go Go.AM
def Sa (k:Nat) (x:Node):Node:=⟨x.ef,IL k x.cG⟩
structure AW (F n:Nat) (l:List bD):Prop where
 nd:(l.map (·.aV)).Nodup
 ok:∀a∈l,(0<=a.aV/\a.aV<(F:Int))/\0<=a.To/\a.To<(n:Int)
def y7.nd {l:List bD} (h:y7 l):(l.map (·.aV)).Nodup:=by unfold List.Nodup;rw[fR];exact h.imp λh=>by omega
def AW.Ct {F n:Nat} {l:List bD} (h:AW F n l):AO F n (Ct l):=⟨L5 h.nd,λa q=>h.ok a ((oI l).2.2 a|>.1 q)⟩
def AW.len {F n:Nat} {l:List bD} (h:AW F n l):l.length<=F:=by have:=h.Ct.len;rwa[(oI l).2.1] at this
def fa (l:List bD) (f:Int):Option bD:=l.find? λa=>a.aV==f
def Lp {l:List bD} {f:Int} {a:bD} (h:fa l f=some a):a∈l/\a.aV=f:=by have q:=s9 h;have w:=td h;simp_all
def RC {l:List bD} {f:Int} (h:fa l f=none):∀a∈l,a.aV≠f:=λa q e=>by have:=xS.1 h a q;simp_all
def lG (l:List Node):Gr:=⟨λx=>((l.map (·.cG)).getD x []).map λa=>(a.aV,a.To.toNat),λx=>(l.map (·.ef)).getD x 0⟩
end Go.Proofs.YthppjmoncapdfaaGreatDoor.cl.pf
namespace Go.Proofs.YthppjmoncapdfaaGreatDoor.cl.pf
open Go Go.AM
section
variable {h:dr} {T:Nat} {sb:Int->Int->Prop} (H:HM h T sb) {l:List Node} (hn:l.length<=1000000) (htl:∀x∈l,0<=x.ef/\x.ef<(T:Int)) (hT0:0<T)
variable {cl:List Int} {rep:Nat->Nat} (EJ:cl.length=l.length) (hc:∀x,x<l.length->cl.getD x 0=(rep x:Nat)) (rl:∀x,x<l.length->rep x<l.length) (rr:∀x,x<l.length->rep (rep x)=rep x)
theorem WA {x:Nat} (q:x<l.length):(lG l).ty x=l[x].ef:=ry _
theorem LN {x:Nat} (q:x<l.length):(lG l).sc x=l[x].cG.map λa=>(a.aV,a.To.toNat):=by show List.map _ _=_;simp_all
include H hn htl EJ hc rl rr
end
section
variable {l:List Node} {F:Nat} (hn:l.length<=1000000) (hF:F<=1000000) (hA:∀x∈l,AW F l.length x.cG)
variable {cl:List Int} {rep:Nat->Nat} (EJ:cl.length=l.length) (hc:∀x,x<l.length->cl.getD x 0=(rep x:Nat)) (rl:∀x,x<l.length->rep x<l.length)
theorem Bi {nZ:Node->List bD->Node}:∀(xs:List Node) (q:List (List bD)),xs.length=q.length->wk nZ xs (q.map some)=some (List.zipWith nZ xs q)
 |[],[],_=>rfl
 |x::xs,y::q,h=>by have:=Bi (nZ:=nZ) xs q (by simp_all);simp_all[wk]
 |[],y::q,h=>by simp at h
 |x::xs,[],h=>by simp at h
theorem Mh {R:Type} {nZ:Node->List bD->Node} {xs:List Node} {q:List (List bD)} (h:xs.length=q.length) (k:List Node->Option R):Mg nZ xs (q.map some) k=k (List.zipWith nZ xs q):=by simp_all[Mg,Bi]
theorem DT {R:Type} {q:List (List bD)} {i:Nat} (h:i<q.length) (k:List bD->List (Option (List bD))->Option R):KC (q.map some) i k=k (q.getD i []) ((q.map some).set i none):=by simp_all[KC]
abbrev W8:Node->List bD->Node:=λx z=>{ x with cG:=z }
include hn hF hA EJ hc rl
end
end Go.Proofs.YthppjmoncapdfaaGreatDoor.cl.pf
namespace Go.Proofs.YthppjmoncapdfaaGreatDoor.cl.pf
open Go Go.AM
def MT {N k:Nat} (h:k<N):(List.range N).idxOf k=k:=sj List.nodup_range (s8 h)
def Bz {T F:Nat} {g:FSt} (G:0<g.au.length) (z:GO T F (mC g) g.au.length) (hn:∀x∈g.au,∀a∈x.cG,0<=a.To) (L:ij (mC g) g.au.length 0=List.range g.au.length):Can T F g:=by
 refine⟨G,z,?_⟩;obtain⟨l⟩:=g;unfold jG;rw[L];congr 1;apply je;intro i;rw[dz];by_cases B:i<l.length
 .rw[s8 B,aW _];congr 1;have D:qT _ i=l[i].ef:=vD _;have q:j9 _ i=NB l[i]:=zB _;show l[i]=(⟨qT _ i,(j9 _ i).map _⟩)
  rw[D,q];unfold NB;rw[dw]
  have:l[i].cG=l[i].cG.map ((λp:Int×Nat=>(⟨p.1,((List.range l.length).idxOf p.2)⟩))∘λa=>(a.aV,a.To.toNat)):=by
   conv=>lhs;rw[<-j0 l[i].cG]
   refine fQ λa w=> ?_
   have I:=hn _ (bH _) a w;have K :=z.bd i B _ (by show _∈j9 _ _;rw[q];exact aA.2 ⟨a,w,rfl⟩);show a=⟨_,_⟩
   rw[MT K];obtain⟨x,y⟩:=a;simp at I⊢;congr 1;omega
  exact aC (Node.mk _) this
 simp_all
def DZ (f:FSt) (tl:List Int):FSt:=⟨List.zipWith (λx t=>⟨t,x.cG⟩) f.au tl⟩
section
variable {f:FSt} {tl:List Int} (hl:tl.length=f.au.length)
include hl
theorem A2:(DZ f tl).au.length=f.au.length:=by show(List.zipWith _ _ _).length=_;simp_all
theorem Fv {i:Nat} (q:i<f.au.length):(DZ f tl).au[i]? =some ⟨tl.getD i 0,f.au[i].cG⟩:=by show(List.zipWith _ _ _)[i]? =_;simp_all
theorem Fw:j9 (DZ f tl)=j9 f:=by
 funext i;by_cases q:i<f.au.length
 .unfold j9;rw[Fv hl q,aW _];rfl
 grind[Fy,DZ]
theorem KN {i:Nat} (q:i<f.au.length):qT (DZ f tl) i=tl.getD i 0:=by unfold qT;rw[Fv hl q]
theorem Can.DZ {T F:Nat} (h:Can T F f) {D:Nat} (K:∀i,i<f.au.length->0<=tl.getD i 0/\tl.getD i 0<(D:Int)):Can D F (DZ f tl):=by
 have z:=A2 hl;have w:=Fw hl;refine Bz (by rw[z];exact h.ne) ?_ ?_ ?_
 .rw[z];refine⟨?_,?_,?_,λi q=> ?_⟩
  .show Bd (j9 _) _;rw[w];exact h.go.bd
  .show∀n,n<_->vK (j9 _ n);rw[w];exact h.go.x5
  .show∀n,n<_->∀p∈j9 _ n,_;rw[w];exact h.go.ft
  .show 0<=qT _ i/\qT _ i<_;simp_all[KN]
 .intro x I a G;obtain⟨i,q⟩:=fG.1 I;have B:i<f.au.length:=by have:=(bp.1 q).1;omega
  rw[Fv hl B] at q;cases q;exact h.nn (bH _) G
 .rw[z]
  have:ij (mC (cl.pf.DZ f tl)) f.au.length 0=ij (mC f) f.au.length 0:=by show mG (j9 _) _ _ _=mG (j9 f) _ _ _;rw[w]
  rw[this,h.ord]
end
