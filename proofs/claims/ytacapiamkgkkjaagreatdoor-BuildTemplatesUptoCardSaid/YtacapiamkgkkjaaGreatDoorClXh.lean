/- Unification by classes (the program's). -/
import Derived.Test.YtacapiamkgkkjaaGreatDoorClXe
set_option linter.all false
open Go.IntKind (wrap)
open Int (toNat)
open List (length replicate)
namespace Go.Proofs.YtacapiamkgkkjaaGreatDoor.cl.pf
open Go Go.AM
def P9 (G:Gr) (o:List Nat) (y:Nat):Node:=⟨G.ty y,(G.sc y).map λp=>⟨p.1,(o.idxOf p.2:Nat)⟩⟩
theorem Px {o l:List Nat} (h:o<+:l) {x:Nat} (q:x∈o):l.idxOf x=o.idxOf x:=by obtain⟨t,rfl⟩:=h;grind
def ndO_pre {G:Gr} {o l:List Nat} (h:o<+:l) {y:Nat} (q:∀p∈G.sc y,p.2∈o):P9 G o y=P9 G l y:=by grind[P9,List.map_congr_left,Px]
structure NO (n:Nat) (num:List Int) (o:List Nat):Prop where
 len:num.length=n
 at_:∀x,x<n->num.getD x 0=if x∈o then(o.idxOf x:Int) else-1
def NO.snoc {n:Nat} {num:List Int} {o:List Nat} (h:NO n num o) {y:Nat} (w:y<n) (l:y∉o):NO n (num.set y (o.length:Int)) (o++[y]):=by
 refine⟨by rw[iO];exact h.len,λx q=> ?_⟩;rw[fI];by_cases e:y=x
 .subst e;rw[aC ⟨rfl,by rw[h.len];omega⟩,zJ,aA l];simp
 .rw[h.at_ x q];grind
section
variable {T F n:Nat} {TL:List fL} {FL:List dg} {ty:List Int} {ar:List (List cD)} {rep d:Nat->Nat}
variable (la:ar.length=n) (lt:ty.length=n) (hao:∀x,x<n->AO F n (ar.getD x [])) (hrl:∀x,x<n->rep x<n) (hrr:∀x,x<n->rep (rep x)=rep x) (hF:F<=1000000) (hn:n<=1000000)
include hao hrl in
theorem ab1:Bd (mP ty ar rep).sc n:=λx w p q=>by obtain⟨a,l,rfl⟩:=aG.1 q;exact hrl _ (by have:=((hao x w).ok a l).2;omega)
def VisR (n:Nat) (G:Gr) (rep d:Nat->Nat) (ty:List Int) (ar:List (List cD)) (res:Option (Int×List Int×List Node×List Int×List Int×List (List cD))) (w:Nat) (o z:List Nat) (out:List Node):Prop:=
 ∃l q,res=some ((w:Int),l,out++(z.drop o.length).map (P9 G z),q,ty,ar)/\NO n l z/\PI n q rep d
include la lt hao hrl hF hn
theorem h487_9 {k:Nat} {o:List Nat} {y:Nat} {out:List Node} (hy:y<n) (hyo:y∉o) (R:out.length=o.length)
  (ih:∀(x:Nat) (o:List Nat) (num:List Int) (out:List Node) (D:List Int),x<n->NO n num o->PI n D rep d->Met n o->n<k+o.length->out.length=o.length->
   VisR n (mP ty ar rep) rep d ty ar (f487 (x:Int) TL FL num out D ty ar) ((nZ (mP ty ar rep).sc k (rep x) o).idxOf (rep x)) o (nZ (mP ty ar rep).sc k (rep x) o) out):
  ∀(l:List cD) (i:Nat) (q:List Nat) (num D:List Int),(ar.getD y []).drop i=l->NO n num q->PI n D rep d->Met n q->o++[y]<+:q->n<k+q.length->
   (∀z∈q.drop (o.length+1),∀p∈(mP ty ar rep).sc z,p.2∈q)->(∀a∈(ar.getD y []).take i,rep a.To.toNat∈q)->
   ∃G I,Ry (o.length:Int) (ar.getD y []) ((ar.getD y []).length:Int) (i:Int) (((ar.getD y []).take i).map λa=>⟨a.bP,(q.idxOf (rep a.To.toNat):Nat)⟩) TL FL num ((out++[⟨ty.getD y 0,[]⟩])++(q.drop (o.length+1)).map (P9 (mP ty ar rep) q)) D ty ar=
    some ((o.length:Int),G,(out++[P9 (mP ty ar rep) (tq (mP ty ar rep).sc k (l.map λa=>(a.bP,rep a.To.toNat)) q) y])++((tq (mP ty ar rep).sc k (l.map λa=>(a.bP,rep a.To.toNat)) q).drop (o.length+1)).map (P9 (mP ty ar rep) (tq (mP ty ar rep).sc k (l.map λa=>(a.bP,rep a.To.toNat)) q)),I,ty,ar)/\
    NO n G (tq (mP ty ar rep).sc k (l.map λa=>(a.bP,rep a.To.toNat)) q)/\PI n I rep d:=by
 have hB:Bd (mP ty ar rep).sc n:=ab1 hao hrl;have hal:=(hao y hy).len;intro l;induction l with
 |nil=>intro i q num D L hN hP hM N hk U K;refine⟨num,D,ad0 ?_,hN,hP⟩;rw[bg L,au,BG aH,aS,iE (x:=⟨ty.getD y 0,[]⟩) (by rw[fM aH,e7 af,R];simp)];have e1:(ar.getD y []).take i=ar.getD y []:=gI (j0 L);rw[e1];simp only[fN,tq,List.foldl_nil];congr 4;rw[zk _ _ aH,mC _ _ af,R,ot,sH];congr 3;unfold P9 mP;simp only[fF];rfl
 |cons a l ih2=>
  intro i q num D L hN hP hM N hk U K;have ha:a∈ar.getD y []:=aP (bU L);have hok:=((hao y hy).ok a ha).2;obtain⟨x,hx⟩:=fW hok.1;have V:x<n:=af;have P:a.To.toNat=x:=af;have hol:o.length+1<=q.length:=by have:=N.length_le;simpa using this
  obtain⟨G,I,f1,N1,P1⟩:=ih x q num ((out++[⟨ty.getD y 0,[]⟩])++(q.drop (o.length+1)).map (P9 (mP ty ar rep) q)) D V hN hP hM hk aH;have w:=JS (sc:=(mP ty ar rep).sc) k (rep x) q;have hM2:=AK hB k (rep x) q hM (hrl x V);obtain⟨c1,c2⟩:=AJ hB k (rep x) q hM (hrl x V) hk;have hlen2:=w.length_le
  obtain⟨num2,par2,g1,g2,g3⟩:=ih2 (i+1) (nZ (mP ty ar rep).sc k (rep x) q) G I (aI L) N1 P1 hM2 (N.trans w) af (λz Q p hp=>by
    by_cases h2:z∈q.drop (o.length+1)
    .exact w.subset (U z h2 p hp)
    .by_cases h3:z∈q
     .obtain⟨t,ht⟩:=w;rw[<-ht,vr hol] at Q;rcases bf.1 Q with Q|Q
      .exact absurd Q h2
      .have:=hM2.nd;rw[<-ht,gW] at this;exact absurd rfl (this.2.2 z h3 z Q)
     .exact c2 z (jw Q) h3 p hp) (λb O=>by
    rw[dy] at O;rcases bf.1 O with O|O
    .exact w.subset (K b O)
    .rw[bU L] at O;simp at O;subst O
     rw[P];exact c1)
  refine⟨num2,par2,ad0 ?_,?_,g3⟩
  .have hcat:(out++[⟨ty.getD y 0,[]⟩])++(q.drop (o.length+1)).map (P9 (mP ty ar rep) q)++((nZ (mP ty ar rep).sc k (rep x) q).drop q.length).map (P9 (mP ty ar rep) (nZ (mP ty ar rep).sc k (rep x) q))=
     (out++[⟨ty.getD y 0,[]⟩])++((nZ (mP ty ar rep).sc k (rep x) q).drop (o.length+1)).map (P9 (mP ty ar rep) (nZ (mP ty ar rep).sc k (rep x) q)):=by
    rw[dz];refine aU (λz=>(out++[(⟨ty.getD y 0,[]⟩:Node)])++z) ?_;have e1:(q.drop (o.length+1)).map (P9 (mP ty ar rep) q)=(q.drop (o.length+1)).map (P9 (mP ty ar rep) (nZ (mP ty ar rep).sc k (rep x) q)):=
     iK λz Q=>ndO_pre w (U z Q)
    rw[e1,<-cE];refine aU (List.map _) ?_;obtain⟨t,ht⟩:=w;rw[<-ht,zK,vr hol]
   have S:(((ar.getD y []).take i).map λa=>(⟨a.bP,(q.idxOf (rep a.To.toNat):Nat)⟩:cD))++[⟨a.bP,((nZ (mP ty ar rep).sc k (rep x) q).idxOf (rep x):Nat)⟩]=
     ((ar.getD y []).take (i+1)).map λa=>(⟨a.bP,((nZ (mP ty ar rep).sc k (rep x) q).idxOf (rep a.To.toNat):Nat)⟩:cD):=by
    rw[dy,bU L,cE];rw[iK (g:=λa=>(⟨a.bP,((nZ (mP ty ar rep).sc k (rep x) q).idxOf (rep a.To.toNat):Nat)⟩:cD)) λb O=>by rw[Px w (K b O)]];simp[P]
   have hlt:=eM L;rw[aR L,aj,aK L,hx,f1,Kf,cF _ (by rw[bI,dL];omega) ai af,aN L af,hcat];have:=S;rw[this,g1];simp only[bM,tq,gA,P]
  .simp only[bM,tq,gA,P];exact g2
include hrr in
theorem h487:∀(k x:Nat) (o:List Nat) (num:List Int) (out:List Node) (par:List Int),x<n->NO n num o->PI n par rep d->Met n o->n<k+o.length->out.length=o.length->
  VisR n (mP ty ar rep) rep d ty ar (f487 (x:Int) TL FL num out par ty ar) ((nZ (mP ty ar rep).sc k (rep x) o).idxOf (rep x)) o (nZ (mP ty ar rep).sc k (rep x) o) out:=by
 have hB:Bd (mP ty ar rep).sc n:=ab1 hao hrl;intro k;induction k with
 |zero=>intro x o num out par hx L hP N hk _;have:=yR N.nd N.lt;omega
 |succ k ih=>
  intro x o num out par hx L hP N hk D;obtain⟨K,f1,P1⟩:=c485 (TL:=TL) (FL:=FL) (ty:=ty) (ar:=ar) hx hP;have w:=hrl x hx;have q:rep x<num.length:=by rw[L.len];exact w
  have htl:rep x<ty.length:=by rw[lt];exact w
  have V:rep x<ar.length:=by rw[la];exact w
  have hol:=yR N.nd N.lt;by_cases l:rep x∈o
  .have R:nZ (mP ty ar rep).sc (k+1) (rep x) o=o:=by rw[nZ,aC l]
   rw[R];refine⟨num,K,e487 ?_,L,P1⟩;rw[f1,cL,uA q,L.at_ _ w,aC l,cond_pos (by rw[bN];omega),uA q,L.at_ _ w,aC l];simp
  .have R:nZ (mP ty ar rep).sc (k+1) (rep x) o=tq (mP ty ar rep).sc k ((ar.getD (rep x) []).map λa=>(a.bP,rep a.To.toNat)) (o++[rep x]):=by rw[nZ,aA l];rfl
   have U:=N.snoc w l;obtain⟨P,Q,S,g2,g3⟩:=h487_9 (TL:=TL) (FL:=FL) (d:=d) la lt hao hrl hF hn w l D ih (ar.getD (rep x) []) 0 (o++[rep x]) (num.set (rep x) (o.length:Int)) K rfl (L.snoc w l) P1 U (sA _) (by simp only[bR,dY];omega)
    (λz hz=>by rw[sD ai] at hz;cases hz) (λb hb=>by cases hb)
   rw[R];have G:=Cm (sc:=(mP ty ar rep).sc) k ((ar.getD (rep x) []).map λa=>(a.bP,rep a.To.toNat)) (o++[rep x]);generalize tq (mP ty ar rep).sc k ((ar.getD (rep x) []).map λa=>(a.bP,rep a.To.toNat)) (o++[rep x])=I at *;have X6:I.idxOf (rep x)=o.length:=by rw[Px G ai,zJ,aA l];simp
   refine⟨P,Q,e487 ?_,g2,g3⟩;rw[f1,cL,uA q,L.at_ _ w,aA l,cond_neg (by rfl),uA q,uA htl,cF _ af ai af,rdL V,aS,D,X6];rw[sD ai,fN,eP,zL,fN] at S;have e0:((0:Nat):Int)=0:=rfl;rw[e0] at S;rw[S];have O:(out++[P9 (mP ty ar rep) I (rep x)])++(I.drop (o.length+1)).map (P9 (mP ty ar rep) I)=out++(I.drop o.length).map (P9 (mP ty ar rep) I):=by
    have e2:I.drop o.length=rep x::I.drop (o.length+1):=by obtain⟨t,ht⟩:=G;rw[<-ht,dz,zK,<-dz,vr ai,sD ai];rfl
    rw[e2,bM,dz];rfl
   rw[O]
theorem h444 {root:Nat} {f0:FSt} {o5:List Int} {res:FSt×List Int×List Int×List (List cD)} {par:List Int}:∀(k i:Nat),n=i+k->
  (Sh (f487 (root:Int) TL FL (replicate n (-1)) ([]:List Node) par ty ar) λI G l q w z=>some ((FSt.mk l),q,w,z))=some res->
  Rs (root:Int) (n:Int) (i:Int) f0 (replicate i (-1)++replicate k 0) o5 TL FL par ty ar=some res:=by
 intro k;induction k with
 |zero=>
  intro i K D;refine adP ?_
  have:i=n:=af
  subst this;rw[cond_neg (by rw[bB];omega),zM,eP];exact D
 |succ k N=>
  intro i K D;refine adP ?_;have L:i<(replicate i (-1:Int)++replicate (k+1) 0).length:=ai;rw[cond_pos (by rw[bN];omega),uA L,aS,bJ af];have e:(replicate i (-1:Int)++replicate (k+1) 0).set i (-1)=replicate (i+1) (-1)++replicate k 0:=by rw[mC _ _ ai,mI,ot,uk,sH,vt];simp
  rw[e];exact N (i+1) af D
include hrr in
theorem c444 {root:Nat} {q:List Int} (G:root<n) (P:PI n q rep d):∃l,f444 (root:Int) TL FL q ty ar=some (nU (mP ty ar rep) n (rep root),l,ty,ar):=by
 have D:NO n (replicate n (-1)) []:=⟨ai,λx I=>by rw[aA ai,bD,qz,aC I];rfl⟩
 obtain⟨w,l,z,_,_⟩:=h487 (TL:=TL) (FL:=FL) (d:=d) la lt hao hrl hrr hF hn (n+1) root [] (replicate n (-1)) [] q G D P Met.nil ai rfl;refine⟨l,e444 ?_⟩;rw[b9 ⟨af,by omega,by rw[P.len];omega,by rw[P.len];omega⟩,P.len,aS,mI];have:=h444 (TL:=TL) (FL:=FL) (root:=root) (f0:=⟨[]⟩) (o5:=[]) (par:=q) la lt hao hrl hF hn n 0 af (by rw[z,Kf]);rw[zM,dU] at this;exact this
end
end Go.Proofs.YtacapiamkgkkjaaGreatDoor.cl.pf
namespace Go.Proofs.YtacapiamkgkkjaaGreatDoor.cl.pf
open Go Go.AM
def zj (k:Nat) (l:List cD):List cD:=l.map λa=>⟨a.bP,a.To+k⟩
def ids (s k:Nat):List Int:=(List.range' s k).map λ(x:Nat)=>(x:Int)
def acV (s k:Nat):ids s (k+1)=(s:Int)::ids (s+1) k:=by simp[ids,rZ]
def rE (s k:Nat):(ids s k).length=k:=by simp[ids]
def Jh (s k j:Nat):ids s k++ids (s+k) j=ids s (k+j):=by unfold ids;rw[<-cE,List.range'_append_1]
def KS {k x:Nat} (h:x<k):(ids 0 k).getD x 0=(x:Int):=by unfold ids;rw[bD,dV,List.getElem?_range' af];simp
section
variable {TL:List fL} {FL:List dg}
def h442_8 {fr:Nat} {l:List Node} {n v:Int} {q:List cD} {x:Node} {z ty:List Int} {ar:List (List cD)} {res:Unit×List Int×List Int×List (List cD)} (hf:fr<=1000000) (O:q.length<=1000000) (G:∀a∈q,0<=a.To/\a.To<=1000000) (I:ar.length<=100000000):
  ∀(xs:List cD) (i:Nat),q.drop i=xs->Mj fr l n (wrap .i64 (v+1)) TL FL z ty (ar++[zj fr q])=some res->
   Rr fr l n v q (q.length:Int) (i:Int) x (zj fr (q.take i)) TL FL z ty ar=some res:=by
 intro xs;induction xs with
 |nil=>intro i w D;refine adO ?_;rw[bg w,au,cF _ af ai af,gI (j0 w)];exact D
 |cons a xs L=>
  intro i w D;refine adO ?_;have N:=G a (aP (bU w));have K:=eM w;rw[aR w,aj,aK w,cF _ (by unfold zj;rw[bI,dL];omega) ai af,aN w af,oW af af];have e:zj fr (q.take i)++[⟨a.bP,a.To+fr⟩]=zj fr (q.take (i+1)):=by rw[dy,bU w];simp[zj]
  rw[e];exact L (i+1) (aI w) D
def h442_2 {fr:Nat} {l:List Node} (hf:fr+l.length<=1000000) (D:∀x∈l,x.cn.length<=1000000/\∀a∈x.cn,0<=a.To/\a.To<=1000000):∀(xs:List Node) (i:Nat) (q ty:List Int) (ar:List (List cD)),l.drop i=xs->q.length<=fr+i->ty.length<=fr+i->ar.length<=fr+i->
  Mj (fr:Int) l (l.length:Int) (i:Int) TL FL q ty ar=some ((),q++ids (fr+i) xs.length,ty++xs.map (·.eF),ar++xs.map λx=>zj fr x.cn):=by
 intro xs;induction xs with
 |nil=>intro i q ty ar w _ _ _;refine adN ?_;rw[bg w,au];simp[ids]
 |cons x xs I=>intro i q ty ar w K L N;have z:=D x (aP (bU w));have G:=eM w;refine adN ?_;rw[aR w,aj,aK w,cF _ af ai af,cF _ af ai af,oW af af];refine h442_8 af z.1 z.2 af x.cn 0 rfl ?_;rw[aN w af,I (i+1) _ _ _ (aI w) aH aH aH,bA,acV];have e:(fr:Int)+(i:Int)=((fr+i:Nat):Int):=af;rw[e];simp[kz]
def abQ {l:List Node} {q ty:List Int} {ar:List (List cD)} {fr:Nat} (z:q.length=fr) (G:ty.length=fr) (D:ar.length=fr) (hf:fr+l.length<=1000000) (w:∀x∈l,x.cn.length<=1000000/\∀a∈x.cn,0<=a.To/\a.To<=1000000):
  f442 l TL FL q ty ar=some ((),q++ids fr l.length,ty++l.map (·.eF),ar++l.map λx=>zj fr x.cn):=by
 refine e442 ?_;rw[z];exact h442_2 hf w l 0 q ty ar rfl af af af
end
def JI.init {T n:Nat} {Q:List cD->Prop} {sb:Int->Int->Prop} {U:Gr} {w ty:List Int} {ar:List (List cD)} (K:∀{a},0<=a->a<(T:Int)->sb a a) (q:w=ids 0 n) (N:ty.length=n) (L:ar.length=n) (z:∀x,x<n->0<=ty.getD x 0/\ty.getD x 0<(T:Int)) (ao:∀x,x<n->Q (ar.getD x []))
  (G:∀x,x<n->U.sc x=(ar.getD x []).map λa=>(a.bP,a.To.toNat)) (I:∀x,x<n->U.ty x=ty.getD x 0):JI T Q sb U n [] [] w ty ar id (λ_=>0):=by
 subst q;refine⟨⟨rE _ _,λx l=>⟨x,l,KS l,rfl, .inl rfl⟩,λx l=>by rw[KS l];simp,λx l=>l,λx _=>rfl⟩,N,L,z,ao,(λp q=>by cases q),λx l=> ?_,λx l p q=> ?_,(λp q=>by cases q),λC m O D=>⟨λx _=>rfl,λx l _=>⟨?_,λa h=> ?_⟩,(λp q=>by cases q)⟩⟩
 .rw[I x l];exact K (z x l).1 (z x l).2
 .rw[G x l] at q;obtain⟨a,h,rfl⟩:=aG.1 q;exact⟨a,h,rfl, .yo rfl⟩
 .rw[<-I x l];exact D.ty x l
 .exact D.ar x l (a.bP,a.To.toNat) (by rw[G x l];exact aG.2 ⟨a,h,rfl⟩)
def Can.ao {T F:Nat} {f:FSt} (h:Can T F f) {x:Node} (G:x∈f.az):AO F (f.az.length) x.cn:=by
 obtain⟨i,z⟩:=gu.1 G;have l:i<f.az.length:=(bu.1 z).1;have q:f.az[i]=x:=(bu.1 z).2;have e:lU f i=scN x:=by rw[wX l,q]
 refine⟨?_,λa w=> ?_⟩
 .have:=h.zW i;rw[e] at this;unfold CU scN at this;rw[ic] at this;exact this
 .have D:(a.bP,a.To.toNat)∈lU f i:=by rw[e];exact aG.2 ⟨a,w,rfl⟩
  have I:=h.go.ft i l _ D;have K:=h.bd i l _ D;have L:=h.nn G w;exact⟨I,L,by simp only at K;omega⟩
def Can.tyr {T F:Nat} {f:FSt} (h:Can T F f) {x:Node} (z:x∈f.az):0<=x.eF/\x.eF<(T:Int):=by
 obtain⟨i,w⟩:=gu.1 z;have l:i<f.az.length:=(bu.1 w).1;have q:f.az[i]=x:=(bu.1 w).2;have:=h.go.tp i l;have e:(qS f).ty i=x.eF:=by show tU f i=_;rw[AI l,q]
 rwa[e] at this
def AO.sh {F n k N:Nat} {l:List cD} (h:AO F n l) (z:n+k<=N):AO F N (zj k l):=by
 refine⟨?_,λa q=> ?_⟩
 .unfold Gm zj;rw[ic];exact h.zW
 .obtain⟨b,w,rfl⟩:=aG.1 q;have:=h.ok b w;exact⟨this.1,by show 0<=b.To+(k:Int);omega,by show b.To+(k:Int)<(N:Int);omega⟩
def Y9 {F n k:Nat} {l:List cD} (h:AO F n l):((zj k l).map λa=>(a.bP,a.To.toNat))=(l.map λa=>(a.bP,a.To.toNat)).map λp=>(p.1,p.2+k):=by
 unfold zj;rw[fF,fF];refine iK λa q=> ?_
 have:=(h.ok a q).2;show(a.bP,(a.To+(k:Int)).toNat)=(a.bP,a.To.toNat+k)
 congr 1;omega
def kH {q w:Type} {l:List q} {g:q->w} {i:Nat} {d:w} (h:i<l.length):(l.map g).getD i d=g l[i]:=by rw[bD,dV,aM h];rfl
def Ac {q:Type} {l m:List q} {i:Nat} {d:q} (h:i<l.length):(l++m).getD i d=l.getD i d:=by rw[bD,bD,fM h]
def DY {q:Type} {l m:List q} {i:Nat} {d:q} (h:l.length<=i):(l++m).getD i d=m.getD (i-l.length) d:=by rw[bD,bD,e7 h]
def Can.small {T F:Nat} {f:FSt} (h:Can T F f) (hn:f.az.length<=1000000) (hF:F<=1000000):∀x∈f.az,x.cn.length<=1000000/\∀a∈x.cn,0<=a.To/\a.To<=1000000:=λx q=>by have:=h.ao q;exact⟨fk this.len hF,λa l=>by have:=(this.ok a l).2;omega⟩
section
variable {h:aV} {T F:Nat} {sb:Int->Int->Prop} (H:HM h T sb) {A B:FSt} (hA:Can T F A) (hB:Can T F B) (hF:F<=400) (hn:A.az.length+B.az.length<=1000000)
include H hA hB hF hn
theorem ZQ:JI T (AO F (A.az.length+B.az.length)) sb (r7 A B) (A.az.length+B.az.length) [] [] (ids 0 (A.az.length)++ids (A.az.length) (B.az.length)) (A.az.map (·.eF)++B.az.map (·.eF)) ((A.az.map λx=>zj 0 x.cn)++B.az.map λx=>zj (A.az.length) x.cn) id (λ_=>0):=by
 have I:ids 0 (A.az.length)++ids (A.az.length) (B.az.length)=ids 0 (A.az.length+B.az.length):=by have:=Jh 0 (A.az.length) (B.az.length);rwa[eY] at this
 have D:∀x,(q:x<A.az.length)->((A.az.map λx=>zj 0 x.cn)++B.az.map λx=>zj (A.az.length) x.cn).getD x []=zj 0 A.az[x].cn:=λx q=>by rw[Ac (by simpa using q),kH q]
 have G:∀x,(q:x<A.az.length+B.az.length)->(l:¬x<A.az.length)->((A.az.map λx=>zj 0 x.cn)++B.az.map λx=>zj (A.az.length) x.cn).getD x []=zj (A.az.length) (B.az[x-A.az.length]'(by omega)).cn:=λx q l=>by
  rw[DY aH]
  have:x-(A.az.map λx=>zj 0 x.cn).length=x-A.az.length:=ai
  rw[this,kH af]
 have w:∀x,(q:x<A.az.length)->(A.az.map (·.eF)++B.az.map (·.eF)).getD x 0=A.az[x].eF:=λx q=>by rw[Ac (by simpa using q),kH q]
 have z:∀x,(q:x<A.az.length+B.az.length)->(l:¬x<A.az.length)->(A.az.map (·.eF)++B.az.map (·.eF)).getD x 0=(B.az[x-A.az.length]'(by omega)).eF:=λx q l=>by
  rw[DY aH]
  have:x-(A.az.map (·.eF)).length=x-A.az.length:=ai
  rw[this,kH af]
 refine JI.init H.to.refl I ai ai (λx q=> ?_) (λx q=> ?_) (λx q=> ?_) (λx q=> ?_)<;>by_cases l:x<A.az.length
 .rw[w x l];exact hA.tyr (cG l)
 .rw[z x q l];exact hB.tyr (cG _)
 .rw[D x l];exact(hA.ao (cG l)).sh af
 .rw[G x q l];exact(hB.ao (cG _)).sh af
 .rw[D x l,Y9 (hA.ao (cG l)),(Bz l).1,wX l];exact(qo _).symm
 .rw[G x q l,Y9 (hB.ao (cG _)),(BA l).1,wX af];rfl
 .rw[w x l,(Bz l).2,AI l]
 .rw[z x q l,(BA l).2,AI af]
theorem c433:(∃f,f433 h A B=some (f,true)/\Lub T F sb A B f)\/(f433 h A B=some (⟨[]⟩,false)/\∀C,Can T F C->Le sb A C->Le sb B C->False):=by
 have G:f442 A.az h.Types h.bG [] [] []=some ((),ids 0 (A.az.length),A.az.map (·.eF),A.az.map λx=>zj 0 x.cn):=by rw[abQ (fr:=0) rfl rfl rfl af (hA.small af af)];simp
 have I:f442 B.az h.Types h.bG (ids 0 (A.az.length)) (A.az.map (·.eF)) (A.az.map λx=>zj 0 x.cn)=some ((),ids 0 (A.az.length)++ids (A.az.length) (B.az.length),A.az.map (·.eF)++B.az.map (·.eF),(A.az.map λx=>zj 0 x.cn)++B.az.map λx=>zj (A.az.length) x.cn):=
  abQ (fr:=A.az.length) (rE _ _) ai ai hn (hB.small af af)
 have q:(A.az.length+B.az.length) *F<=400000000:=by have:=ow hn hF;omega
 have K:0<A.az.length+B.az.length:=by have:=hA.ne;omega
 have l:A.az.length<A.az.length+B.az.length:=by have:=hB.ne;omega
 rcases c443 H af K l q (ZQ H hA hB hF hn) with⟨D,ty,ar,rep,d,z,J⟩|⟨⟨D,ty,ar,z⟩,w⟩
 .obtain⟨N,g⟩:=c444 (TL:=h.Types) (FL:=h.bG) (d:=d) J.la J.lt J.ao J.pi.rl J.pi.rr af hn K J.pi;refine .inl ⟨_,e433 ?_,Si H.to hA hB (J.uni (both_go hA hB).bd)⟩;rw[G,cL,I,cL];have e:(0:Int)=((0:Nat):Int):=rfl;rw[e,z,cL,cond_neg (by rfl),g,cL]
 .refine .inr ⟨e433 ?_,λC L O P=> ?_⟩
  .rw[G,cL,I,cL];have e:(0:Int)=((0:Nat):Int):=rfl;rw[e,z,cL,cond_pos (by rfl)]
  .obtain⟨m,_,Q⟩:=Kg hA hB L O P;exact w (qS C) m L.RX Q
end
end Go.Proofs.YtacapiamkgkkjaaGreatDoor.cl.pf
namespace Go.Proofs.YtacapiamkgkkjaaGreatDoor.cl.pf
open Go Go.AM
def wF (x:cD):List cD->List cD
 |[]=>[x]
 |y::l=>if y.bP<=x.bP then y::wF x l else x::y::l
def Ot (l:List cD):List cD:=l.foldl (λo x=>wF x o) []
def R9 (l:List cD):Prop:=l.Pairwise λa b=>a.bP<=b.bP
def KU {x a:cD}:∀{l:List cD},a∈wF x l↔a=x\/a∈l
 |[]=>by simp[wF]
 |y::l=>by
  unfold wF;split
  .rw[aJ,KU];grind
  .simp
def KT {x:cD}:∀{l:List cD},(wF x l).length=l.length+1
 |[]=>rfl
 |y::l=>by unfold wF;split<;>simp[KT]
def KV {x:cD}:∀{l:List cD},R9 l->R9 (wF x l)
 |[],_=>sI _ _
 |y::l,h=>by
  have z:=c7.1 h;unfold wF;split
  .rename_i w;refine c7.2 ⟨λa q=> ?_,KV z.2⟩;rcases KU.1 q with rfl|q
   .exact w
   simp_all
  .refine c7.2 ⟨λa q=> ?_,h⟩;grind
def Tv {x:cD} {w:List cD} (z:∀a∈w,x.bP<a.bP):∀{u:List cD},(∀a∈u,a.bP<=x.bP)->wF x (u++w)=u++[x]++w
 |[],_=>by cases w with
  |nil=>rfl
  |cons y w=>simp_all[wF,aA]
 |y::u,l=>by show wF x (y::(u++w))=_;unfold wF;rw[aC (l y ai),Tv z λa q=>l a (by simp[q])];rfl
def xS:∀(l:List cD),R9 (Ot l)/\(Ot l).length=l.length/\∀a,a∈Ot l↔a∈l:=by
 intro l;unfold Ot;have key:∀(l o:List _),R9 o->R9 (l.foldl (λo x=>wF x o) o)/\(l.foldl (λo x=>wF x o) o).length=o.length+l.length/\∀a,a∈l.foldl (λo x=>wF x o) o↔a∈o\/a∈l:=by intro l;induction l with
  |nil=>simp
  |cons x l D=>intro o h;obtain⟨q,w,z⟩:=D _ (KV h);refine⟨q,by rw[gA,w,KT,bA];omega,λa=> ?_⟩;rw[gA,z a,KU];grind
 have:=key l _ List.Pairwise.nil;simp_all
def Za {l:List cD} (h:(l.map (·.bP)).Nodup):Gm (Ot l):=by
 obtain⟨z,_,G⟩:=xS l;have q:((Ot l).map (·.bP)).Nodup:=by
  have key:∀(l o:List _),((o++l).map (·.bP)).Nodup->((l.foldl (λo x=>wF x o) o).map (·.bP)).Nodup:=by intro l;induction l with
   |nil=>simp
   |cons x l I=>
    have w:∀o:List _,((wF x o).map (·.bP)).Perm ((o++[x]).map (·.bP)):=by intro o;induction o with
     |nil=>rfl
     |cons y o D=>unfold wF;grind
    grind
  exact key l _ (by assumption)
 unfold List.Nodup at q;rw[ic] at q;exact(z.and q).imp λ{a b} h=>by omega
def h463_6 {l:List cD} {i:Nat} {x:cD} {res:List cD} (P:l[i]? =some x) (hl:l.length<=1000000) {o:List cD} (ho:o.length<=1000000) (Q:R9 o)
  (S:AE l ((i+1:Nat):Int) (wF x o)=some res):∀(v:Nat),v<=o.length->(∀a∈o.drop v,x.bP<a.bP)->JL l (i:Int) (v:Int) o=some res:=by
 have V:i<l.length:=(bu.1 P).1;have G:∀(v:Nat),v<=o.length->(∀a∈o.drop v,x.bP<a.bP)->(∀a∈o.take v,a.bP<=x.bP)->
   check (0<=(v:Int)/\(v:Int)<=((o.length:Nat):Int)) (
   check ((length ([]:List cD)+length ((o.take (toNat (v:Int))).drop 0)) *16<=140737488355328/\length ([]:List cD)+length ((o.take (toNat (v:Int))).drop 0)<=4611686018427387904) (
   bp l (i:Int) λq=>
   check ((length (([]:List cD)++((o.take (toNat (v:Int))).drop 0))+length [q]) *16<=140737488355328/\length (([]:List cD)++((o.take (toNat (v:Int))).drop 0))+length [q]<=4611686018427387904) (
   check (0<=(v:Int)/\(v:Int)<=((o.length:Nat):Int)) (
   check ((length ((([]:List cD)++((o.take (toNat (v:Int))).drop 0))++[q])+length ((o.take (length o)).drop (toNat (v:Int)))) *16<=140737488355328/\length ((([]:List cD)++((o.take (toNat (v:Int))).drop 0))++[q])+length ((o.take (length o)).drop (toNat (v:Int)))<=4611686018427387904) (
   AE l (wrap .i64 ((i:Int)+1)) (((([]:List cD)++((o.take (toNat (v:Int))).drop 0))++[q])++((o.take (length o)).drop (toNat (v:Int)))))))))=some res:=by
  intro v L D R;have e:(o.take v++[x])++o.drop v=wF x o:=by have:=Tv (x:=x) D R;rw[jZ] at this;exact this.symm
  rw[b9 ⟨af,af⟩,aS,qy,cF _ ai (by rw[dL];omega) af,jd P,dU,cF _ (by rw[dL];omega) ai af,b9 ⟨af,af⟩,fZ,cF _ aH aH af,e,bJ af];exact S
 intro v;induction v with
 |zero=>intro L D;refine YD ?_;rw[cond_neg (by rfl)];exact G 0 L D (λa w=>by cases w)
 |succ v U=>
  intro L D;refine YD ?_;have z:v<o.length:=L;rw[cond_pos (by rw[bN];omega),qO af,BG z,aS,mQ z,jd P];by_cases N:x.bP<o[v].bP
  .rw[cond_pos (by rw[bN];exact N)];refine U af λa w=> ?_
   rw[jY z] at w;rcases aJ.1 w with rfl|w
   .exact N
   .exact D a w
  .rw[cond_neg (by rw[bB];exact N)];refine G (v+1) L D λa w=> ?_
   rw[dy,aM z] at w;unfold R9 at Q;rcases bf.1 w with w|w
   .obtain⟨j,I⟩:=gu.1 w;rw[lP] at I;split at I
    .rename_i O;have K:j<o.length:=af;rw[aM K] at I;cases I;have:=js.1 Q j v K z O;omega
    .cases I
   .simp at w;subst w;omega
def h463 {l:List cD} (D:l.length<=1000000):∀(xs:List cD) (i:Nat) (o:List cD),l.drop i=xs->R9 o->o.length<=i->AE l (i:Int) o=some (xs.foldl (λo x=>wF x o) o):=by intro xs;induction xs with
 |nil=>intro i o q _ _;refine YC ?_;rw[bg q,au];rfl
 |cons x xs I=>intro i o q z K;have G:=eM q;refine YC ?_;rw[aR q,aj];refine h463_6 (bU q) D af z ?_ o.length (aQ _) (λa w=>by rw[qm] at w;cases w);exact I (i+1) (wF x o) (aI q) (KV z) (by rw[KT];omega)
def c463 {l:List cD} (q:l.length<=1000000):f463 l=some (Ot l):=e463 (h463 q l 0 [] rfl List.Pairwise.nil (aQ _))
def Nd (f:FSt) (n:Nat):List (Int×Nat):=match f.az[n]? with
 |some x=>(Ot x.cn).map λa=>(a.bP,a.To.toNat)
 |none=>[]
def srG (f:FSt):Gr:=⟨Nd f,tU f⟩
def Vc (f:FSt):Prop:=∀x∈f.az,x.cn.length<=1000000/\∀a∈x.cn,0<=a.To/\a.To<(f.az.length:Int)
def QF {f:FSt} {n:Nat} (h:n<f.az.length):Nd f n=(Ot f.az[n].cn).map λa=>(a.bP,a.To.toNat):=by unfold Nd;rw[aM h]
def afc {f:FSt} (h:Vc f):Bd (srG f).sc f.az.length:=λn hn p l=>by have l:p∈Nd f n:=l;rw[QF hn] at l;obtain⟨a,q,rfl⟩:=aG.1 l;have:=(h _ (cG hn)).2 a ((xS _).2.2 a|>.1 q);show a.To.toNat<_;omega
def jf (o:List Nat):List Int:=o.map λ(x:Nat)=>(x:Int)
section
variable {f:FSt} (hf:Vc f) (hn:f.az.length<=1000000)
include hf hn
theorem h455_4 {k:Nat} (ih:∀(x:Nat) (o:List Nat) (num:List Int),x<f.az.length->x∉o->NO f.az.length num o->Met f.az.length o->f.az.length<k+o.length->
   ∃l,f455 (x:Int) f.az num (jf o)=some ((),l,jf (nZ (Nd f) k x o))/\NO f.az.length l (nZ (Nd f) k x o)) {as_:List cD} (has:as_.length<=1000000) (Q:∀a∈as_,0<=a.To/\a.To<(f.az.length:Int)):
  ∀(xs:List cD) (i:Nat) (o:List Nat) (num:List Int),as_.drop i=xs->NO f.az.length num o->Met f.az.length o->f.az.length<k+o.length->
   ∃l,Mn as_ (i:Int) f.az num (jf o)=some ((),l,jf (tq (Nd f) k (xs.map λa=>(a.bP,a.To.toNat)) o))/\NO f.az.length l (tq (Nd f) k (xs.map λa=>(a.bP,a.To.toNat)) o):=by
 intro xs;induction xs with
 |nil=>intro i o num q z _ _;refine⟨num,Wi ?_,z⟩;rw[bg q,au];rfl
 |cons a xs G=>
  intro i o num q z O U;have ha:=Q a (aP (bU q));obtain⟨x,R⟩:=fW ha.1;have w:x<f.az.length:=af;have S:a.To.toNat=x:=af;have hlt:=eM q;have D:x<num.length:=by rw[z.len];exact w
  simp only[bM,tq,gA,S];by_cases K:x∈o
  .have ev:nZ (Nd f) k x o=o:=by
    cases k with
    |zero=>rfl
    |succ k=>rw[nZ,aC K]
   rw[ev];obtain⟨l,L,N⟩:=G (i+1) o num (aI q) z O U;refine⟨l,Wi ?_,N⟩;rw[aR q,aj,aK q,R,uA D,z.at_ x w,aC K,cond_neg (by rw[bB];omega),aN q af];exact L
  .obtain⟨I,f1,N1⟩:=ih x o num w K z O U;have P:=AK (afc hf) k x o O w;have V:=JR (sc:=Nd f) k x o;obtain⟨l,L,N⟩:=G (i+1) _ I (aI q) N1 P af;refine⟨l,Wi ?_,N⟩;rw[aR q,aj,aK q,R,uA D,z.at_ x w,aA K,cond_pos (by rfl),aK q,R,f1,bq,aN q af];exact L
theorem h455:∀(k x:Nat) (o:List Nat) (num:List Int),x<f.az.length->x∉o->NO f.az.length num o->Met f.az.length o->f.az.length<k+o.length->
  ∃l,f455 (x:Int) f.az num (jf o)=some ((),l,jf (nZ (Nd f) k x o))/\NO f.az.length l (nZ (Nd f) k x o):=by
 intro k;induction k with
 |zero=>intro x o num _ _ _ w R;have:=yR w.nd w.lt;omega
 |succ k U=>
  intro x o num z q K w R;have G:x<num.length:=by rw[K.len];exact z
  have S:=yR w.nd w.lt;obtain⟨D,I⟩:=hf _ (cG z);obtain⟨s1,V,s3⟩:=xS f.az[x].cn;obtain⟨l,O,P⟩:=h455_4 hf hn U (as_:=Ot f.az[x].cn) (by rw[V];exact D) (λa Q=>I a ((s3 a).1 Q)) (Ot f.az[x].cn) 0 (o++[x]) (num.set x (o.length:Int)) rfl (K.snoc z q) (w.snoc z q) (by simp only[bR,dY];omega);have N:nZ (Nd f) (k+1) x o=tq (Nd f) k ((Ot f.az[x].cn).map λa=>(a.bP,a.To.toNat)) (o++[x]):=by rw[nZ,aA q,QF z]
  rw[N];refine⟨l,e455 ?_,P⟩;rw[uA G,cF _ (by unfold jf;rw[bI];omega) ai af,cR z,c463 D,ak,aS];have e:jf o++[(x:Int)]=jf (o++[x]):=by simp[jf]
  have L:((jf o).length:Int)=(o.length:Int):=by simp[jf]
  rw[e,L];exact O
theorem h436_14 {i:Nat} {P Q:FSt} {x:Node} {nd w l:List Node} {num q:List Int} {o:List Nat} (L:NO f.az.length num o) (h52:w.length<=1000000) {res:FSt}:∀(xs done:List cD),done.length+xs.length<=1000000->(∀a∈xs,0<=a.To/\a.To<(f.az.length:Int)/\a.To.toNat∈o)->
  Hj (wrap .i64 ((i:Int)+1)) P Q nd (w++[⟨x.eF,done++xs.map λa=>⟨a.bP,(o.idxOf a.To.toNat:Nat)⟩⟩]) l num q=some res->
  FY (i:Int) (done.length:Int) P Q x nd (done++xs) w l num q=some res:=by
 intro xs;induction xs with
 |nil=>intro done O _ z;refine TJ ?_;rw[cond_neg (by rw[bB];simp),cF _ af ai af,eP];rw[fN,eP] at z;exact z
 |cons a xs ih=>
  intro done O D z;simp only[bA] at O;obtain⟨S,h2,K⟩:=D a ai;obtain⟨y,V⟩:=fW S;have G:y<f.az.length:=af;have I:a.To.toNat=y:=af;rw[I] at K;have N:∀{R:Type} (k:cD->Option R),ef (done++a::xs) done.length k=k a:=λk=>iE ai k
  refine TJ ?_;rw[cond_pos (by rw[bN];simp;omega),BG ai,aS,N,V,uA (by rw[L.len];exact G),L.at_ y G,aC K,b9 ⟨af,ai⟩,N,bJ af,mC _ _ (aQ _),ot,sH]
  have:=ih (done++[⟨a.bP,(o.idxOf y:Nat)⟩]) aH (λb U=>D b (by simp[U])) (by
   rw[bM,I] at z
   rw[dz];exact z)
  rw[bR,dY,dz] at this;exact this
theorem h436_9 {o4:FSt} {nd lg:List Node} {num:List Int} {o:List Nat} (R:NO f.az.length num o) (G:Met f.az.length o) (K:∀y∈o,∀p∈Nd f y,p.2∈o):
  ∀(xs:List Nat) (i:Nat) (l:List Node),o.drop i=xs->l.length<=i->Hj (i:Int) f o4 nd l lg num (jf o)=some ⟨l++xs.map (P9 (srG f) o)⟩:=by
 have U:=yR G.nd G.lt;intro xs;induction xs with
 |nil=>intro i l q _;refine adJ ?_;have S:=j0 q;rw[cond_neg (by rw[bB];simp[jf];omega)];simp
 |cons y xs V=>
  intro i l q h52;have w:=eM q;have D:y∈o:=aP (bU q);have z:=G.lt y D;obtain⟨I,O⟩:=hf _ (cG z);obtain⟨s1,s2,s3⟩:=xS f.az[y].cn;have N:i<(jf o).length:=by simp[jf];exact w
  have L:(jf o).getD i 0=(y:Int):=by unfold jf;rw[kH w];have:=bU q;rw[aM w] at this;rw[fc this]
  refine adJ ?_;rw[cond_pos (by rw[bN];omega),uA N,L,cR z,c463 I,ak];have e0:((([]:List cD).length:Nat):Int)=0:=rfl;refine h436_14 hf hn R af (Ot f.az[y].cn) [] aH (λa Q=> ?_) ?_
  .have P:=O a ((s3 a).1 Q);refine⟨P.1,P.2,K y D (a.bP,a.To.toNat) ?_⟩;rw[QF z];exact aG.2 ⟨a,Q,rfl⟩
  .rw[aN q af,V (i+1) _ (aI q) aH];have e:P9 (srG f) o y=⟨f.az[y].eF,[]++(Ot f.az[y].cn).map λa=>⟨a.bP,(o.idxOf a.To.toNat:Nat)⟩⟩:=by
    show(⟨tU f y,(Nd f y).map _⟩:Node)=_;rw[AI z,QF z,fF];rfl
   rw[bM,e,dz];rfl
theorem h436_3 {root:Nat} {o4:FSt} {nd lg:List Node} {res:FSt} (D:(eO (f455 (root:Int) nd (replicate f.az.length (-1)) []) λw l q=>Hj 0 f o4 nd ([]:List Node) lg l q)=some res):
  ∀(k i:Nat),f.az.length=i+k->Ro (root:Int) (i:Int) f o4 nd lg (replicate i (-1)) []=some res:=by
 intro k;induction k with
 |zero=>intro i z;refine adI ?_;have e:i=f.az.length:=af;subst e;rw[cond_neg (by rw[bB];omega)];exact D
 |succ k G=>intro i z;refine adI ?_;rw[cond_pos (by rw[bN];omega),cF _ aH ai af,bJ af,<-vt];exact G (i+1) af
theorem c436 {root:Nat} (l:root<f.az.length):f436 f (root:Int)=some (nU (srG f) f.az.length root):=by
 have D:NO f.az.length (replicate f.az.length (-1)) []:=⟨ai,λx I=>by rw[aA ai,bD,qz,aC I];rfl⟩
 obtain⟨w,q,z⟩:=h455 hf hn (f.az.length+1) root [] _ l ai D Met.nil ai;have hB:=afc hf;refine e436 ?_;refine h436_3 hf hn ?_ f.az.length 0 af
 have:jf ([]:List Nat)=[]:=rfl
 rw[this] at q;rw[q,bq];have g:=h436_9 hf hn (o4:=⟨[]⟩) (nd:=f.az) (lg:=[]) z (vJ (G:=srG f) hB l) (λy K p G=>BV (G:=srG f) hB l K G) _ 0 [] rfl (aQ _);exact g
end
