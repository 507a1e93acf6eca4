/- Unification by classes (the program's). -/
import Derived.Test.YtbnlhmaaccgbjaaGreatDoorClXe
set_option linter.all false
open Go.IntKind (wrap)
open Int (toNat)
open List (length replicate)
namespace Go.Proofs.YtbnlhmaaccgbjaaGreatDoor.cl.pf
open Go Go.AM
def Pm (G:Gr) (o:List Nat) (y:Nat):Node:=⟨G.ty y,(G.sc y).map λp=>⟨p.1,(o.idxOf p.2:Nat)⟩⟩
def OR {o l:List Nat} (h:o<+:l) {x:Nat} (q:x∈o):l.idxOf x=o.idxOf x:=by obtain⟨t,rfl⟩:=h;rw[rW,aB q]
def ndO_pre {G:Gr} {o l:List Nat} (h:o<+:l) {y:Nat} (w:∀p∈G.sc y,p.2∈o):Pm G o y=Pm G l y:=by unfold Pm;congr 1;exact gY λp q=>by rw[OR h (w p q)]
structure NO (n:Nat) (num:List Int) (o:List Nat):Prop where
 len:num.length=n
 at_:∀x,x<n->num.getD x 0=if x∈o then(o.idxOf x:Int) else-1
def NO.snoc {n:Nat} {num:List Int} {o:List Nat} (h:NO n num o) {y:Nat} (z:y<n) (q:y∉o):NO n (num.set y (o.length:Int)) (o++[y]):=by
 refine⟨by rw[jg];exact h.len,λx w=> ?_⟩;rw[fF];by_cases e:y=x
 .subst e;rw[aB ⟨rfl,by rw[h.len];exact z⟩,aB ai,rW,au q];simp
 .rw[au (λh=>e h.1),h.at_ x w];by_cases l:x∈o
  .rw[aB l,aB (by simp[l]),rW,aB l]
  .rw[au l,au (by simp[l];exact λh=>e h.symm)]
section
variable {T F n:Nat} {TL:List fO} {FL:List cU} {ty:List Int} {ar:List (List cD)} {rep d:Nat->Nat}
variable (la:ar.length=n) (lt:ty.length=n) (hao:∀x,x<n->AO F n (ar.getD x [])) (hrl:∀x,x<n->rep x<n) (hrr:∀x,x<n->rep (rep x)=rep x) (hF:F<=1000000) (hn:n<=1000000)
include hao hrl in
theorem aa9:Bd (mj ty ar rep).sc n:=λx w p q=>by obtain⟨a,l,rfl⟩:=aD.1 q;exact hrl _ (by have:=((hao x w).ok a l).2;omega)
def VisR (n:Nat) (G:Gr) (rep d:Nat->Nat) (ty:List Int) (ar:List (List cD)) (res:Option (Int×List Int×List Node×List Int×List Int×List (List cD))) (w:Nat) (o z:List Nat) (out:List Node):Prop:=
 ∃l q,res=some ((w:Int),l,out++(z.drop o.length).map (Pm G z),q,ty,ar)/\NO n l z/\PI n q rep d
include la lt hao hrl hF hn
theorem h487_9 {k:Nat} {o:List Nat} {y:Nat} {out:List Node} (hy:y<n) (hyo:y∉o) (R:out.length=o.length)
  (ih:∀(x:Nat) (o:List Nat) (num:List Int) (out:List Node) (D:List Int),x<n->NO n num o->PI n D rep d->Met n o->n<k+o.length->out.length=o.length->
   VisR n (mj ty ar rep) rep d ty ar (f487 (x:Int) TL FL num out D ty ar) ((nD (mj ty ar rep).sc k (rep x) o).idxOf (rep x)) o (nD (mj ty ar rep).sc k (rep x) o) out):
  ∀(l:List cD) (i:Nat) (q:List Nat) (num D:List Int),(ar.getD y []).drop i=l->NO n num q->PI n D rep d->Met n q->o++[y]<+:q->n<k+q.length->
   (∀z∈q.drop (o.length+1),∀p∈(mj ty ar rep).sc z,p.2∈q)->(∀a∈(ar.getD y []).take i,rep a.To.toNat∈q)->
   ∃G I,Qz (o.length:Int) (ar.getD y []) ((ar.getD y []).length:Int) (i:Int) (((ar.getD y []).take i).map λa=>⟨a.bN,(q.idxOf (rep a.To.toNat):Nat)⟩) TL FL num ((out++[⟨ty.getD y 0,[]⟩])++(q.drop (o.length+1)).map (Pm (mj ty ar rep) q)) D ty ar=
    some ((o.length:Int),G,(out++[Pm (mj ty ar rep) (sL (mj ty ar rep).sc k (l.map λa=>(a.bN,rep a.To.toNat)) q) y])++((sL (mj ty ar rep).sc k (l.map λa=>(a.bN,rep a.To.toNat)) q).drop (o.length+1)).map (Pm (mj ty ar rep) (sL (mj ty ar rep).sc k (l.map λa=>(a.bN,rep a.To.toNat)) q)),I,ty,ar)/\
    NO n G (sL (mj ty ar rep).sc k (l.map λa=>(a.bN,rep a.To.toNat)) q)/\PI n I rep d:=by
 have hB:Bd (mj ty ar rep).sc n:=aa9 hao hrl;have hal:=(hao y hy).len;intro l;induction l with
 |nil=>intro i q num D L hN hP hM N hk U K;refine⟨num,D,ac3 ?_,hN,hP⟩;rw[bq L,az,Bv aH,bg,lB (x:=⟨ty.getD y 0,[]⟩) (by rw[fL aH,fK af,R];simp)];have e1:(ar.getD y []).take i=ar.getD y []:=jY (mT L);rw[e1];simp only[di,sL,List.foldl_nil];congr 4;rw[yU _ _ aH,pV _ _ af,R,nS,rX];congr 3;unfold Pm mj;simp only[fo];rfl
 |cons a l ih2=>
  intro i q num D L hN hP hM N hk U K;have ha:a∈ar.getD y []:=aZ (bZ L);have hok:=((hao y hy).ok a ha).2;obtain⟨x,hx⟩:=gm hok.1;have V:x<n:=af;have P:a.To.toNat=x:=af;have hol:o.length+1<=q.length:=by have:=N.length_le;simpa using this
  obtain⟨G,I,f1,N1,P1⟩:=ih x q num ((out++[⟨ty.getD y 0,[]⟩])++(q.drop (o.length+1)).map (Pm (mj ty ar rep) q)) D V hN hP hM hk aH;have w:=Jn (sc:=(mj ty ar rep).sc) k (rep x) q;have hM2:=Ar hB k (rep x) q hM (hrl x V);obtain⟨c1,c2⟩:=Aq hB k (rep x) q hM (hrl x V) hk;have hlen2:=w.length_le
  obtain⟨num2,par2,g1,g2,g3⟩:=ih2 (i+1) (nD (mj ty ar rep).sc k (rep x) q) G I (aI L) N1 P1 hM2 (N.trans w) af (λz Q p hp=>by
    by_cases h2:z∈q.drop (o.length+1)
    .exact w.subset (U z h2 p hp)
    .by_cases h3:z∈q
     .obtain⟨t,ht⟩:=w;rw[<-ht,uX hol] at Q;rcases bu.1 Q with Q|Q
      .exact absurd Q h2
      .have:=hM2.nd;rw[<-ht,iI] at this;exact absurd rfl (this.2.2 z h3 z Q)
     .exact c2 z (ji Q) h3 p hp) (λb O=>by
    rw[de] at O;rcases bu.1 O with O|O
    .exact w.subset (K b O)
    .rw[bZ L] at O;simp at O;subst O
     rw[P];exact c1)
  refine⟨num2,par2,ac3 ?_,?_,g3⟩
  .have hcat:(out++[⟨ty.getD y 0,[]⟩])++(q.drop (o.length+1)).map (Pm (mj ty ar rep) q)++((nD (mj ty ar rep).sc k (rep x) q).drop q.length).map (Pm (mj ty ar rep) (nD (mj ty ar rep).sc k (rep x) q))=
     (out++[⟨ty.getD y 0,[]⟩])++((nD (mj ty ar rep).sc k (rep x) q).drop (o.length+1)).map (Pm (mj ty ar rep) (nD (mj ty ar rep).sc k (rep x) q)):=by
    rw[eo];refine aP (λz=>(out++[(⟨ty.getD y 0,[]⟩:Node)])++z) ?_;have e1:(q.drop (o.length+1)).map (Pm (mj ty ar rep) q)=(q.drop (o.length+1)).map (Pm (mj ty ar rep) (nD (mj ty ar rep).sc k (rep x) q)):=
     gY λz Q=>ndO_pre w (U z Q)
    rw[e1,<-cn];refine aP (List.map _) ?_;obtain⟨t,ht⟩:=w;rw[<-ht,List.drop_left,uX hol]
   have S:(((ar.getD y []).take i).map λa=>(⟨a.bN,(q.idxOf (rep a.To.toNat):Nat)⟩:cD))++[⟨a.bN,((nD (mj ty ar rep).sc k (rep x) q).idxOf (rep x):Nat)⟩]=
     ((ar.getD y []).take (i+1)).map λa=>(⟨a.bN,((nD (mj ty ar rep).sc k (rep x) q).idxOf (rep a.To.toNat):Nat)⟩:cD):=by
    rw[de,bZ L,cn];rw[gY (g:=λa=>(⟨a.bN,((nD (mj ty ar rep).sc k (rep x) q).idxOf (rep a.To.toNat):Nat)⟩:cD)) λb O=>by rw[OR w (K b O)]];simp[P]
   have hlt:=eF L;rw[aV L,ak,aM L,hx,f1,JK,cC _ (by rw[bz,fJ];omega) ai af,aR L af,hcat];have:=S;rw[this,g1];simp only[bw,sL,gJ,P]
  .simp only[bw,sL,gJ,P];exact g2
include hrr in
theorem h487:∀(k x:Nat) (o:List Nat) (num:List Int) (out:List Node) (par:List Int),x<n->NO n num o->PI n par rep d->Met n o->n<k+o.length->out.length=o.length->
  VisR n (mj ty ar rep) rep d ty ar (f487 (x:Int) TL FL num out par ty ar) ((nD (mj ty ar rep).sc k (rep x) o).idxOf (rep x)) o (nD (mj ty ar rep).sc k (rep x) o) out:=by
 have hB:Bd (mj ty ar rep).sc n:=aa9 hao hrl;intro k;induction k with
 |zero=>intro x o num out par hx L hP N hk _;have:=yq N.nd N.lt;omega
 |succ k ih=>
  intro x o num out par hx L hP N hk D;obtain⟨K,f1,P1⟩:=c485 (TL:=TL) (FL:=FL) (ty:=ty) (ar:=ar) hx hP;have w:=hrl x hx;have q:rep x<num.length:=by rw[L.len];exact w
  have Vq:rep x<ty.length:=by rw[lt];exact w
  have V:rep x<ar.length:=by rw[la];exact w
  have hol:=yq N.nd N.lt;by_cases l:rep x∈o
  .have R:nD (mj ty ar rep).sc (k+1) (rep x) o=o:=by rw[nD,aB l]
   rw[R];refine⟨num,K,e487 ?_,L,P1⟩;rw[f1,cK,tT q,L.at_ _ w,aB l,cond_pos (by rw[bB];omega),tT q,L.at_ _ w,aB l];simp
  .have R:nD (mj ty ar rep).sc (k+1) (rep x) o=sL (mj ty ar rep).sc k ((ar.getD (rep x) []).map λa=>(a.bN,rep a.To.toNat)) (o++[rep x]):=by rw[nD,au l];rfl
   have U:=N.snoc w l;obtain⟨P,Q,S,g2,g3⟩:=h487_9 (TL:=TL) (FL:=FL) (d:=d) la lt hao hrl hF hn w l D ih (ar.getD (rep x) []) 0 (o++[rep x]) (num.set (rep x) (o.length:Int)) K rfl (L.snoc w l) P1 U (rP _) (by simp only[cF,c7];omega)
    (λz hz=>by rw[rU ai] at hz;cases hz) (λb hb=>by cases hb)
   rw[R];have G:=Cf (sc:=(mj ty ar rep).sc) k ((ar.getD (rep x) []).map λa=>(a.bN,rep a.To.toNat)) (o++[rep x]);generalize sL (mj ty ar rep).sc k ((ar.getD (rep x) []).map λa=>(a.bN,rep a.To.toNat)) (o++[rep x])=I at *;have Xr:I.idxOf (rep x)=o.length:=by rw[OR G ai,rW,au l];simp
   refine⟨P,Q,e487 ?_,g2,g3⟩;rw[f1,cK,tT q,L.at_ _ w,au l,cond_neg (by rfl),tT q,tT Vq,cC _ af ai af,rdL V,bg,D,Xr];rw[rU ai,di,dP,List.take_zero,di] at S;have e0:((0:Nat):Int)=0:=rfl;rw[e0] at S;rw[S];have O:(out++[Pm (mj ty ar rep) I (rep x)])++(I.drop (o.length+1)).map (Pm (mj ty ar rep) I)=out++(I.drop o.length).map (Pm (mj ty ar rep) I):=by
    have e2:I.drop o.length=rep x::I.drop (o.length+1):=by obtain⟨t,ht⟩:=G;rw[<-ht,eo,List.drop_left,<-eo,uX ai,rU ai];rfl
    rw[e2,bw,eo];rfl
   rw[O]
theorem h444 {root:Nat} {f0:FSt} {o5:List Int} {res:FSt×List Int×List Int×List (List cD)} {par:List Int}:∀(k i:Nat),n=i+k->
  (Ry (f487 (root:Int) TL FL (replicate n (-1)) ([]:List Node) par ty ar) λI G l q w z=>some ((FSt.mk l),q,w,z))=some res->
  Qu (root:Int) (n:Int) (i:Int) f0 (replicate i (-1)++replicate k 0) o5 TL FL par ty ar=some res:=by
 intro k;induction k with
 |zero=>
  intro i K D;refine acS ?_
  have:i=n:=af
  subst this;rw[cond_neg (by rw[aT];omega),zm,dP];exact D
 |succ k N=>
  intro i K D;refine acS ?_;have L:i<(replicate i (-1:Int)++replicate (k+1) 0).length:=ai;rw[cond_pos (by rw[bB];omega),tT L,bg,bP af];have e:(replicate i (-1:Int)++replicate (k+1) 0).set i (-1)=replicate (i+1) (-1)++replicate k 0:=by rw[pV _ _ ai,rS,nS,q7,rX,uY];simp
  rw[e];exact N (i+1) af D
include hrr in
theorem c444 {root:Nat} {q:List Int} (G:root<n) (P:PI n q rep d):∃l,f444 (root:Int) TL FL q ty ar=some (nt (mj ty ar rep) n (rep root),l,ty,ar):=by
 have D:NO n (replicate n (-1)) []:=⟨ai,λx I=>by rw[au ai,bC,qa,aB I];rfl⟩
 obtain⟨w,l,z,_,_⟩:=h487 (TL:=TL) (FL:=FL) (d:=d) la lt hao hrl hrr hF hn (n+1) root [] (replicate n (-1)) [] q G D P Met.nil ai rfl;refine⟨l,e444 ?_⟩;rw[bU ⟨af,by omega,by rw[P.len];omega,by rw[P.len];omega⟩,P.len,bg,rS];have:=h444 (TL:=TL) (FL:=FL) (root:=root) (f0:=⟨[]⟩) (o5:=[]) (par:=q) la lt hao hrl hF hn n 0 af (by rw[z,JK]);rw[zm,dK] at this;exact this
end
end Go.Proofs.YtbnlhmaaccgbjaaGreatDoor.cl.pf
namespace Go.Proofs.YtbnlhmaaccgbjaaGreatDoor.cl.pf
open Go Go.AM
def yS (k:Nat) (l:List cD):List cD:=l.map λa=>⟨a.bN,a.To+k⟩
def ids (s k:Nat):List Int:=(List.range' s k).map λ(x:Nat)=>(x:Int)
def abY (s k:Nat):ids s (k+1)=(s:Int)::ids (s+1) k:=by simp[ids,q9]
def qH (s k:Nat):(ids s k).length=k:=by simp[ids]
def IL (s k j:Nat):ids s k++ids (s+k) j=ids s (k+j):=by unfold ids;rw[<-cn,List.range'_append_1]
def Km {k x:Nat} (h:x<k):(ids 0 k).getD x 0=(x:Int):=by unfold ids;rw[bC,dN,List.getElem?_range' af];simp
section
variable {TL:List fO} {FL:List cU}
def h442_8 {fr:Nat} {l:List Node} {n v:Int} {q:List cD} {x:Node} {z ty:List Int} {ar:List (List cD)} {res:Unit×List Int×List Int×List (List cD)} (hf:fr<=1000000) (O:q.length<=1000000) (G:∀a∈q,0<=a.To/\a.To<=1000000) (I:ar.length<=100000000):
  ∀(xs:List cD) (i:Nat),q.drop i=xs->LM fr l n (wrap .i64 (v+1)) TL FL z ty (ar++[yS fr q])=some res->
   Qt fr l n v q (q.length:Int) (i:Int) x (yS fr (q.take i)) TL FL z ty ar=some res:=by
 intro xs;induction xs with
 |nil=>intro i w D;refine acR ?_;rw[bq w,az,cC _ af ai af,jY (mT w)];exact D
 |cons a xs L=>
  intro i w D;refine acR ?_;have N:=G a (aZ (bZ w));have K:=eF w;rw[aV w,ak,aM w,cC _ (by unfold yS;rw[bz,fJ];omega) ai af,aR w af,oy af af];have e:yS fr (q.take i)++[⟨a.bN,a.To+fr⟩]=yS fr (q.take (i+1)):=by rw[de,bZ w];simp[yS]
  rw[e];exact L (i+1) (aI w) D
def h442_2 {fr:Nat} {l:List Node} (hf:fr+l.length<=1000000) (D:∀x∈l,x.cu.length<=1000000/\∀a∈x.cu,0<=a.To/\a.To<=1000000):∀(xs:List Node) (i:Nat) (q ty:List Int) (ar:List (List cD)),l.drop i=xs->q.length<=fr+i->ty.length<=fr+i->ar.length<=fr+i->
  LM (fr:Int) l (l.length:Int) (i:Int) TL FL q ty ar=some ((),q++ids (fr+i) xs.length,ty++xs.map (·.dU),ar++xs.map λx=>yS fr x.cu):=by
 intro xs;induction xs with
 |nil=>intro i q ty ar w _ _ _;refine acQ ?_;rw[bq w,az];simp[ids]
 |cons x xs I=>intro i q ty ar w K L N;have z:=D x (aZ (bZ w));have G:=eF w;refine acQ ?_;rw[aV w,ak,aM w,cC _ af ai af,cC _ af ai af,oy af af];refine h442_8 af z.1 z.2 af x.cu 0 rfl ?_;rw[aR w af,I (i+1) _ _ _ (aI w) aH aH aH,bp,abY];have e:(fr:Int)+(i:Int)=((fr+i:Nat):Int):=af;rw[e];simp[kX]
def aaZ {l:List Node} {q ty:List Int} {ar:List (List cD)} {fr:Nat} (z:q.length=fr) (G:ty.length=fr) (D:ar.length=fr) (hf:fr+l.length<=1000000) (w:∀x∈l,x.cu.length<=1000000/\∀a∈x.cu,0<=a.To/\a.To<=1000000):
  f442 l TL FL q ty ar=some ((),q++ids fr l.length,ty++l.map (·.dU),ar++l.map λx=>yS fr x.cu):=by
 refine e442 ?_;rw[z];exact h442_2 hf w l 0 q ty ar rfl af af af
end
def JI.init {T n:Nat} {Q:List cD->Prop} {sb:Int->Int->Prop} {U:Gr} {w ty:List Int} {ar:List (List cD)} (K:∀{a},0<=a->a<(T:Int)->sb a a) (q:w=ids 0 n) (N:ty.length=n) (L:ar.length=n) (z:∀x,x<n->0<=ty.getD x 0/\ty.getD x 0<(T:Int)) (ao:∀x,x<n->Q (ar.getD x []))
  (G:∀x,x<n->U.sc x=(ar.getD x []).map λa=>(a.bN,a.To.toNat)) (I:∀x,x<n->U.ty x=ty.getD x 0):JI T Q sb U n [] [] w ty ar id (λ_=>0):=by
 subst q;refine⟨⟨qH _ _,λx l=>⟨x,l,Km l,rfl, .inl rfl⟩,λx l=>by rw[Km l];simp,λx l=>l,λx _=>rfl⟩,N,L,z,ao,(λp q=>by cases q),λx l=> ?_,λx l p q=> ?_,(λp q=>by cases q),λC m O D=>⟨λx _=>rfl,λx l _=>⟨?_,λa h=> ?_⟩,(λp q=>by cases q)⟩⟩
 .rw[I x l];exact K (z x l).1 (z x l).2
 .rw[G x l] at q;obtain⟨a,h,rfl⟩:=aD.1 q;exact⟨a,h,rfl, .xU rfl⟩
 .rw[<-I x l];exact D.ty x l
 .exact D.ar x l (a.bN,a.To.toNat) (by rw[G x l];exact aD.2 ⟨a,h,rfl⟩)
def Can.ao {T F:Nat} {f:FSt} (h:Can T F f) {x:Node} (G:x∈f.aA):AO F (f.aA.length) x.cu:=by
 obtain⟨i,z⟩:=jO.1 G;have l:i<f.aA.length:=(bQ.1 z).1;have q:f.aA[i]=x:=(bQ.1 z).2;have e:kE f i=scN x:=by rw[wD l,q]
 refine⟨?_,λa w=> ?_⟩
 .have:=h.Ay i;rw[e] at this;unfold CO scN at this;rw[kO] at this;exact this
 .have D:(a.bN,a.To.toNat)∈kE f i:=by rw[e];exact aD.2 ⟨a,w,rfl⟩
  have I:=h.go.ft i l _ D;have K:=h.bd i l _ D;have L:=h.nn G w;exact⟨I,L,by simp only at K;omega⟩
def Can.tyr {T F:Nat} {f:FSt} (h:Can T F f) {x:Node} (z:x∈f.aA):0<=x.dU/\x.dU<(T:Int):=by
 obtain⟨i,w⟩:=jO.1 z;have l:i<f.aA.length:=(bQ.1 w).1;have q:f.aA[i]=x:=(bQ.1 w).2;have:=h.go.tp i l;have e:(oP f).ty i=x.dU:=by show rE f i=_;rw[Ao l,q]
 rwa[e] at this
def AO.sh {F n k N:Nat} {l:List cD} (h:AO F n l) (z:n+k<=N):AO F N (yS k l):=by
 refine⟨?_,λa q=> ?_⟩
 .unfold F9 yS;rw[kO];exact h.Ay
 .obtain⟨b,w,rfl⟩:=aD.1 q;have:=h.ok b w;exact⟨this.1,by show 0<=b.To+(k:Int);omega,by show b.To+(k:Int)<(N:Int);omega⟩
def Yq {F n k:Nat} {l:List cD} (h:AO F n l):((yS k l).map λa=>(a.bN,a.To.toNat))=(l.map λa=>(a.bN,a.To.toNat)).map λp=>(p.1,p.2+k):=by
 unfold yS;rw[fo,fo];refine gY λa q=> ?_
 have:=(h.ok a q).2;show(a.bN,(a.To+(k:Int)).toNat)=(a.bN,a.To.toNat+k)
 congr 1;omega
def j9 {q w:Type} {l:List q} {g:q->w} {i:Nat} {d:w} (h:i<l.length):(l.map g).getD i d=g l[i]:=by rw[bC,dN,aK h];rfl
def zO {q:Type} {l m:List q} {i:Nat} {d:q} (h:i<l.length):(l++m).getD i d=l.getD i d:=by rw[bC,bC,fL h]
def DJ {q:Type} {l m:List q} {i:Nat} {d:q} (h:l.length<=i):(l++m).getD i d=m.getD (i-l.length) d:=by rw[bC,bC,fK h]
def Can.small {T F:Nat} {f:FSt} (h:Can T F f) (hn:f.aA.length<=1000000) (hF:F<=1000000):∀x∈f.aA,x.cu.length<=1000000/\∀a∈x.cu,0<=a.To/\a.To<=1000000:=λx q=>by have:=h.ao q;exact⟨e7 this.len hF,λa l=>by have:=(this.ok a l).2;omega⟩
section
variable {h:aN} {T F:Nat} {sb:Int->Int->Prop} (H:HM h T sb) {A B:FSt} (hA:Can T F A) (hB:Can T F B) (hF:F<=400) (hn:A.aA.length+B.aA.length<=1000000)
include H hA hB hF hn
theorem Y4:JI T (AO F (A.aA.length+B.aA.length)) sb (ri A B) (A.aA.length+B.aA.length) [] [] (ids 0 (A.aA.length)++ids (A.aA.length) (B.aA.length)) (A.aA.map (·.dU)++B.aA.map (·.dU)) ((A.aA.map λx=>yS 0 x.cu)++B.aA.map λx=>yS (A.aA.length) x.cu) id (λ_=>0):=by
 have I:ids 0 (A.aA.length)++ids (A.aA.length) (B.aA.length)=ids 0 (A.aA.length+B.aA.length):=by have:=IL 0 (A.aA.length) (B.aA.length);rwa[eO] at this
 have D:∀x,(q:x<A.aA.length)->((A.aA.map λx=>yS 0 x.cu)++B.aA.map λx=>yS (A.aA.length) x.cu).getD x []=yS 0 A.aA[x].cu:=λx q=>by rw[zO (by simpa using q),j9 q]
 have G:∀x,(q:x<A.aA.length+B.aA.length)->(l:¬x<A.aA.length)->((A.aA.map λx=>yS 0 x.cu)++B.aA.map λx=>yS (A.aA.length) x.cu).getD x []=yS (A.aA.length) (B.aA[x-A.aA.length]'(by omega)).cu:=λx q l=>by
  rw[DJ aH]
  have:x-(A.aA.map λx=>yS 0 x.cu).length=x-A.aA.length:=ai
  rw[this,j9 af]
 have w:∀x,(q:x<A.aA.length)->(A.aA.map (·.dU)++B.aA.map (·.dU)).getD x 0=A.aA[x].dU:=λx q=>by rw[zO (by simpa using q),j9 q]
 have z:∀x,(q:x<A.aA.length+B.aA.length)->(l:¬x<A.aA.length)->(A.aA.map (·.dU)++B.aA.map (·.dU)).getD x 0=(B.aA[x-A.aA.length]'(by omega)).dU:=λx q l=>by
  rw[DJ aH]
  have:x-(A.aA.map (·.dU)).length=x-A.aA.length:=ai
  rw[this,j9 af]
 refine JI.init H.to.refl I ai ai (λx q=> ?_) (λx q=> ?_) (λx q=> ?_) (λx q=> ?_)<;>by_cases l:x<A.aA.length
 .rw[w x l];exact hA.tyr (cG l)
 .rw[z x q l];exact hB.tyr (cG _)
 .rw[D x l];exact(hA.ao (cG l)).sh af
 .rw[G x q l];exact(hB.ao (cG _)).sh af
 .rw[D x l,Yq (hA.ao (cG l)),(Bl l).1,wD l];exact(nH _).symm
 .rw[G x q l,Yq (hB.ao (cG _)),(Bm l).1,wD af];rfl
 .rw[w x l,(Bl l).2,Ao l]
 .rw[z x q l,(Bm l).2,Ao af]
theorem c433:(∃f,f433 h A B=some (f,true)/\Ui T F sb A B f)\/(f433 h A B=some (⟨[]⟩,false)/\∀C,Can T F C->Le sb A C->Le sb B C->False):=by
 have G:f442 A.aA h.Types h.bJ [] [] []=some ((),ids 0 (A.aA.length),A.aA.map (·.dU),A.aA.map λx=>yS 0 x.cu):=by rw[aaZ (fr:=0) rfl rfl rfl af (hA.small af af)];simp
 have I:f442 B.aA h.Types h.bJ (ids 0 (A.aA.length)) (A.aA.map (·.dU)) (A.aA.map λx=>yS 0 x.cu)=some ((),ids 0 (A.aA.length)++ids (A.aA.length) (B.aA.length),A.aA.map (·.dU)++B.aA.map (·.dU),(A.aA.map λx=>yS 0 x.cu)++B.aA.map λx=>yS (A.aA.length) x.cu):=
  aaZ (fr:=A.aA.length) (qH _ _) ai ai hn (hB.small af af)
 have q:(A.aA.length+B.aA.length) *F<=400000000:=by have:=nV hn hF;omega
 have K:0<A.aA.length+B.aA.length:=by have:=hA.ne;omega
 have l:A.aA.length<A.aA.length+B.aA.length:=by have:=hB.ne;omega
 rcases c443 H af K l q (Y4 H hA hB hF hn) with⟨D,ty,ar,rep,d,z,J⟩|⟨⟨D,ty,ar,z⟩,w⟩
 .obtain⟨N,g⟩:=c444 (TL:=h.Types) (FL:=h.bJ) (d:=d) J.la J.lt J.ao J.pi.rl J.pi.rr af hn K J.pi;refine .inl ⟨_,e433 ?_,Rz H.to hA hB (J.uni (both_go hA hB).bd)⟩;rw[G,cK,I,cK];have e:(0:Int)=((0:Nat):Int):=rfl;rw[e,z,cK,cond_neg (by rfl),g,cK]
 .refine .inr ⟨e433 ?_,λC L O P=> ?_⟩
  .rw[G,cK,I,cK];have e:(0:Int)=((0:Nat):Int):=rfl;rw[e,z,cK,cond_pos (by rfl)]
  .obtain⟨m,_,Q⟩:=JM hA hB L O P;exact w (oP C) m L.Rc Q
end
end Go.Proofs.YtbnlhmaaccgbjaaGreatDoor.cl.pf
namespace Go.Proofs.YtbnlhmaaccgbjaaGreatDoor.cl.pf
open Go Go.AM
def vV (x:cD):List cD->List cD
 |[]=>[x]
 |y::l=>if y.bN<=x.bN then y::vV x l else x::y::l
def NQ (l:List cD):List cD:=l.foldl (λo x=>vV x o) []
def Ro (l:List cD):Prop:=l.Pairwise λa b=>a.bN<=b.bN
def Kq {x a:cD}:∀{l:List cD},a∈vV x l↔a=x\/a∈l
 |[]=>by simp[vV]
 |y::l=>by
  unfold vV;split
  .rw[aJ,Kq];grind
  .simp
def Ko {x:cD}:∀{l:List cD},(vV x l).length=l.length+1
 |[]=>rfl
 |y::l=>by unfold vV;split<;>simp[Ko]
def Kr {x:cD}:∀{l:List cD},Ro l->Ro (vV x l)
 |[],_=>uZ _ _
 |y::l,h=>by
  have z:=dG.1 h;unfold vV;split
  .rename_i w;refine dG.2 ⟨λa q=> ?_,Kr z.2⟩;rcases Kq.1 q with rfl|q
   .exact w
   simp_all
  .refine dG.2 ⟨λa q=> ?_,h⟩;grind
def SB {x:cD} {w:List cD} (z:∀a∈w,x.bN<a.bN):∀{u:List cD},(∀a∈u,a.bN<=x.bN)->vV x (u++w)=u++[x]++w
 |[],_=>by cases w with
  |nil=>rfl
  |cons y w=>simp_all[vV,au]
 |y::u,l=>by show vV x (y::(u++w))=_;unfold vV;rw[aB (l y ai),SB z λa q=>l a (by simp[q])];rfl
def xx:∀(l:List cD),Ro (NQ l)/\(NQ l).length=l.length/\∀a,a∈NQ l↔a∈l:=by
 intro l;unfold NQ;have key:∀(l o:List _),Ro o->Ro (l.foldl (λo x=>vV x o) o)/\(l.foldl (λo x=>vV x o) o).length=o.length+l.length/\∀a,a∈l.foldl (λo x=>vV x o) o↔a∈o\/a∈l:=by intro l;induction l with
  |nil=>simp
  |cons x l D=>intro o h;obtain⟨q,w,z⟩:=D _ (Kr h);refine⟨q,by rw[gJ,w,Ko,bp];omega,λa=> ?_⟩;rw[gJ,z a,Kq];grind
 have:=key l _ List.Pairwise.nil;simp_all
def Yr {l:List cD} (h:(l.map (·.bN)).Nodup):F9 (NQ l):=by
 obtain⟨z,_,G⟩:=xx l;have q:((NQ l).map (·.bN)).Nodup:=by
  have key:∀(l o:List _),((o++l).map (·.bN)).Nodup->((l.foldl (λo x=>vV x o) o).map (·.bN)).Nodup:=by intro l;induction l with
   |nil=>simp
   |cons x l I=>
    have w:∀o:List _,((vV x o).map (·.bN)).Perm ((o++[x]).map (·.bN)):=by intro o;induction o with
     |nil=>rfl
     |cons y o D=>unfold vV;grind
    grind
  exact key l _ (by assumption)
 unfold List.Nodup at q;rw[kO] at q;exact(z.and q).imp λ{a b} h=>by omega
def h463_6 {l:List cD} {i:Nat} {x:cD} {res:List cD} (P:l[i]? =some x) (hl:l.length<=1000000) {o:List cD} (ho:o.length<=1000000) (Q:Ro o)
  (S:Ah l ((i+1:Nat):Int) (vV x o)=some res):∀(v:Nat),v<=o.length->(∀a∈o.drop v,x.bN<a.bN)->Je l (i:Int) (v:Int) o=some res:=by
 have V:i<l.length:=(bQ.1 P).1;have G:∀(v:Nat),v<=o.length->(∀a∈o.drop v,x.bN<a.bN)->(∀a∈o.take v,a.bN<=x.bN)->
   check (0<=(v:Int)/\(v:Int)<=((o.length:Nat):Int)) (
   check ((length ([]:List cD)+length ((o.take (toNat (v:Int))).drop 0)) *16<=140737488355328/\length ([]:List cD)+length ((o.take (toNat (v:Int))).drop 0)<=4611686018427387904) (
   bA l (i:Int) λq=>
   check ((length (([]:List cD)++((o.take (toNat (v:Int))).drop 0))+length [q]) *16<=140737488355328/\length (([]:List cD)++((o.take (toNat (v:Int))).drop 0))+length [q]<=4611686018427387904) (
   check (0<=(v:Int)/\(v:Int)<=((o.length:Nat):Int)) (
   check ((length ((([]:List cD)++((o.take (toNat (v:Int))).drop 0))++[q])+length ((o.take (length o)).drop (toNat (v:Int)))) *16<=140737488355328/\length ((([]:List cD)++((o.take (toNat (v:Int))).drop 0))++[q])+length ((o.take (length o)).drop (toNat (v:Int)))<=4611686018427387904) (
   Ah l (wrap .i64 ((i:Int)+1)) (((([]:List cD)++((o.take (toNat (v:Int))).drop 0))++[q])++((o.take (length o)).drop (toNat (v:Int)))))))))=some res:=by
  intro v L D R;have e:(o.take v++[x])++o.drop v=vV x o:=by have:=SB (x:=x) D R;rw[lY] at this;exact this.symm
  rw[bU ⟨af,af⟩,bg,p9,cC _ ai (by rw[fJ];omega) af,iX P,dK,cC _ (by rw[fJ];omega) ai af,bU ⟨af,af⟩,gp,cC _ aH aH af,e,bP af];exact S
 intro v;induction v with
 |zero=>intro L D;refine XU ?_;rw[cond_neg (by rfl)];exact G 0 L D (λa w=>by cases w)
 |succ v U=>
  intro L D;refine XU ?_;have z:v<o.length:=L;rw[cond_pos (by rw[bB];omega),oz af,Bv z,bg,tf z,iX P];by_cases N:x.bN<o[v].bN
  .rw[cond_pos (by rw[bB];exact N)];refine U af λa w=> ?_
   rw[iJ z] at w;rcases aJ.1 w with rfl|w
   .exact N
   .exact D a w
  .rw[cond_neg (by rw[aT];exact N)];refine G (v+1) L D λa w=> ?_
   rw[de,aK z] at w;unfold Ro at Q;rcases bu.1 w with w|w
   .obtain⟨j,I⟩:=jO.1 w;rw[oR] at I;split at I
    .rename_i O;have K:j<o.length:=af;rw[aK K] at I;cases I;have:=nT.1 Q j v K z O;omega
    .cases I
   .simp at w;subst w;omega
def h463 {l:List cD} (D:l.length<=1000000):∀(xs:List cD) (i:Nat) (o:List cD),l.drop i=xs->Ro o->o.length<=i->Ah l (i:Int) o=some (xs.foldl (λo x=>vV x o) o):=by intro xs;induction xs with
 |nil=>intro i o q _ _;refine XT ?_;rw[bq q,az];rfl
 |cons x xs I=>intro i o q z K;have G:=eF q;refine XT ?_;rw[aV q,ak];refine h463_6 (bZ q) D af z ?_ o.length (aU _) (λa w=>by rw[rI] at w;cases w);exact I (i+1) (vV x o) (aI q) (Kr z) (by rw[Ko];omega)
def c463 {l:List cD} (q:l.length<=1000000):f463 l=some (NQ l):=e463 (h463 q l 0 [] rfl List.Pairwise.nil (aU _))
def ME (f:FSt) (n:Nat):List (Int×Nat):=match f.aA[n]? with
 |some x=>(NQ x.cu).map λa=>(a.bN,a.To.toNat)
 |none=>[]
def srG (f:FSt):Gr:=⟨ME f,rE f⟩
def Uq (f:FSt):Prop:=∀x∈f.aA,x.cu.length<=1000000/\∀a∈x.cu,0<=a.To/\a.To<(f.aA.length:Int)
def PV {f:FSt} {n:Nat} (h:n<f.aA.length):ME f n=(NQ f.aA[n].cu).map λa=>(a.bN,a.To.toNat):=by unfold ME;rw[aK h]
def ad6 {f:FSt} (h:Uq f):Bd (srG f).sc f.aA.length:=λn hn p l=>by have l:p∈ME f n:=l;rw[PV hn] at l;obtain⟨a,q,rfl⟩:=aD.1 l;have:=(h _ (cG hn)).2 a ((xx _).2.2 a|>.1 q);show a.To.toNat<_;omega
def iF (o:List Nat):List Int:=o.map λ(x:Nat)=>(x:Int)
section
variable {f:FSt} (hf:Uq f) (hn:f.aA.length<=1000000)
include hf hn
theorem h455_4 {k:Nat} (ih:∀(x:Nat) (o:List Nat) (num:List Int),x<f.aA.length->x∉o->NO f.aA.length num o->Met f.aA.length o->f.aA.length<k+o.length->
   ∃l,f455 (x:Int) f.aA num (iF o)=some ((),l,iF (nD (ME f) k x o))/\NO f.aA.length l (nD (ME f) k x o)) {as_:List cD} (has:as_.length<=1000000) (Q:∀a∈as_,0<=a.To/\a.To<(f.aA.length:Int)):
  ∀(xs:List cD) (i:Nat) (o:List Nat) (num:List Int),as_.drop i=xs->NO f.aA.length num o->Met f.aA.length o->f.aA.length<k+o.length->
   ∃l,LQ as_ (i:Int) f.aA num (iF o)=some ((),l,iF (sL (ME f) k (xs.map λa=>(a.bN,a.To.toNat)) o))/\NO f.aA.length l (sL (ME f) k (xs.map λa=>(a.bN,a.To.toNat)) o):=by
 intro xs;induction xs with
 |nil=>intro i o num q z _ _;refine⟨num,Vz ?_,z⟩;rw[bq q,az];rfl
 |cons a xs G=>
  intro i o num q z O U;have ha:=Q a (aZ (bZ q));obtain⟨x,R⟩:=gm ha.1;have w:x<f.aA.length:=af;have S:a.To.toNat=x:=af;have hlt:=eF q;have D:x<num.length:=by rw[z.len];exact w
  simp only[bw,sL,gJ,S];by_cases K:x∈o
  .have ev:nD (ME f) k x o=o:=by
    cases k with
    |zero=>rfl
    |succ k=>rw[nD,aB K]
   rw[ev];obtain⟨l,L,N⟩:=G (i+1) o num (aI q) z O U;refine⟨l,Vz ?_,N⟩;rw[aV q,ak,aM q,R,tT D,z.at_ x w,aB K,cond_neg (by rw[aT];omega),aR q af];exact L
  .obtain⟨I,f1,N1⟩:=ih x o num w K z O U;have P:=Ar (ad6 hf) k x o O w;have V:=Jl (sc:=ME f) k x o;obtain⟨l,L,N⟩:=G (i+1) _ I (aI q) N1 P af;refine⟨l,Vz ?_,N⟩;rw[aV q,ak,aM q,R,tT D,z.at_ x w,au K,cond_pos (by rfl),aM q,R,f1,bI,aR q af];exact L
theorem h455:∀(k x:Nat) (o:List Nat) (num:List Int),x<f.aA.length->x∉o->NO f.aA.length num o->Met f.aA.length o->f.aA.length<k+o.length->
  ∃l,f455 (x:Int) f.aA num (iF o)=some ((),l,iF (nD (ME f) k x o))/\NO f.aA.length l (nD (ME f) k x o):=by
 intro k;induction k with
 |zero=>intro x o num _ _ _ w R;have:=yq w.nd w.lt;omega
 |succ k U=>
  intro x o num z q K w R;have G:x<num.length:=by rw[K.len];exact z
  have S:=yq w.nd w.lt;obtain⟨D,I⟩:=hf _ (cG z);obtain⟨s1,V,s3⟩:=xx f.aA[x].cu;obtain⟨l,O,P⟩:=h455_4 hf hn U (as_:=NQ f.aA[x].cu) (by rw[V];exact D) (λa Q=>I a ((s3 a).1 Q)) (NQ f.aA[x].cu) 0 (o++[x]) (num.set x (o.length:Int)) rfl (K.snoc z q) (w.snoc z q) (by simp only[cF,c7];omega);have N:nD (ME f) (k+1) x o=sL (ME f) k ((NQ f.aA[x].cu).map λa=>(a.bN,a.To.toNat)) (o++[x]):=by rw[nD,au q,PV z]
  rw[N];refine⟨l,e455 ?_,P⟩;rw[tT G,cC _ (by unfold iF;rw[bz];omega) ai af,cO z,c463 D,aj,bg];have e:iF o++[(x:Int)]=iF (o++[x]):=by simp[iF]
  have L:((iF o).length:Int)=(o.length:Int):=by simp[iF]
  rw[e,L];exact O
theorem h436_14 {i:Nat} {P Q:FSt} {x:Node} {nd w l:List Node} {num q:List Int} {o:List Nat} (L:NO f.aA.length num o) (h52:w.length<=1000000) {res:FSt}:∀(xs done:List cD),done.length+xs.length<=1000000->(∀a∈xs,0<=a.To/\a.To<(f.aA.length:Int)/\a.To.toNat∈o)->
  GV (wrap .i64 ((i:Int)+1)) P Q nd (w++[⟨x.dU,done++xs.map λa=>⟨a.bN,(o.idxOf a.To.toNat:Nat)⟩⟩]) l num q=some res->
  FK (i:Int) (done.length:Int) P Q x nd (done++xs) w l num q=some res:=by
 intro xs;induction xs with
 |nil=>intro done O _ z;refine SN ?_;rw[cond_neg (by rw[aT];simp),cC _ af ai af,dP];rw[di,dP] at z;exact z
 |cons a xs ih=>
  intro done O D z;simp only[bp] at O;obtain⟨S,h2,K⟩:=D a ai;obtain⟨y,V⟩:=gm S;have G:y<f.aA.length:=af;have I:a.To.toNat=y:=af;rw[I] at K;have N:∀{R:Type} (k:cD->Option R),eG (done++a::xs) done.length k=k a:=λk=>lB ai k
  refine SN ?_;rw[cond_pos (by rw[bB];simp;omega),Bv ai,bg,N,V,tT (by rw[L.len];exact G),L.at_ y G,aB K,bU ⟨af,ai⟩,N,bP af,pV _ _ (aU _),nS,rX]
  have:=ih (done++[⟨a.bN,(o.idxOf y:Nat)⟩]) aH (λb U=>D b (by simp[U])) (by
   rw[bw,I] at z
   rw[eo];exact z)
  rw[cF,c7,eo] at this;exact this
theorem h436_9 {o4:FSt} {nd kI:List Node} {num:List Int} {o:List Nat} (R:NO f.aA.length num o) (G:Met f.aA.length o) (K:∀y∈o,∀p∈ME f y,p.2∈o):
  ∀(xs:List Nat) (i:Nat) (l:List Node),o.drop i=xs->l.length<=i->GV (i:Int) f o4 nd l kI num (iF o)=some ⟨l++xs.map (Pm (srG f) o)⟩:=by
 have U:=yq G.nd G.lt;intro xs;induction xs with
 |nil=>intro i l q _;refine acM ?_;have S:=mT q;rw[cond_neg (by rw[aT];simp[iF];omega)];simp
 |cons y xs V=>
  intro i l q h52;have w:=eF q;have D:y∈o:=aZ (bZ q);have z:=G.lt y D;obtain⟨I,O⟩:=hf _ (cG z);obtain⟨s1,s2,s3⟩:=xx f.aA[y].cu;have N:i<(iF o).length:=by simp[iF];exact w
  have L:(iF o).getD i 0=(y:Int):=by unfold iF;rw[j9 w];have:=bZ q;rw[aK w] at this;rw[eT this]
  refine acM ?_;rw[cond_pos (by rw[bB];omega),tT N,L,cO z,c463 I,aj];have e0:((([]:List cD).length:Nat):Int)=0:=rfl;refine h436_14 hf hn R af (NQ f.aA[y].cu) [] aH (λa Q=> ?_) ?_
  .have P:=O a ((s3 a).1 Q);refine⟨P.1,P.2,K y D (a.bN,a.To.toNat) ?_⟩;rw[PV z];exact aD.2 ⟨a,Q,rfl⟩
  .rw[aR q af,V (i+1) _ (aI q) aH];have e:Pm (srG f) o y=⟨f.aA[y].dU,[]++(NQ f.aA[y].cu).map λa=>⟨a.bN,(o.idxOf a.To.toNat:Nat)⟩⟩:=by
    show(⟨rE f y,(ME f y).map _⟩:Node)=_;rw[Ao z,PV z,fo];rfl
   rw[bw,e,eo];rfl
theorem h436_3 {root:Nat} {o4:FSt} {nd kI:List Node} {res:FSt} (D:(e9 (f455 (root:Int) nd (replicate f.aA.length (-1)) []) λw l q=>GV 0 f o4 nd ([]:List Node) kI l q)=some res):
  ∀(k i:Nat),f.aA.length=i+k->Qo (root:Int) (i:Int) f o4 nd kI (replicate i (-1)) []=some res:=by
 intro k;induction k with
 |zero=>intro i z;refine acL ?_;have e:i=f.aA.length:=af;subst e;rw[cond_neg (by rw[aT];omega)];exact D
 |succ k G=>intro i z;refine acL ?_;rw[cond_pos (by rw[bB];omega),cC _ aH ai af,bP af,<-uY];exact G (i+1) af
theorem c436 {root:Nat} (l:root<f.aA.length):f436 f (root:Int)=some (nt (srG f) f.aA.length root):=by
 have D:NO f.aA.length (replicate f.aA.length (-1)) []:=⟨ai,λx I=>by rw[au ai,bC,qa,aB I];rfl⟩
 obtain⟨w,q,z⟩:=h455 hf hn (f.aA.length+1) root [] _ l ai D Met.nil ai;have hB:=ad6 hf;refine e436 ?_;refine h436_3 hf hn ?_ f.aA.length 0 af
 have:iF ([]:List Nat)=[]:=rfl
 rw[this] at q;rw[q,bI];have g:=h436_9 hf hn (o4:=⟨[]⟩) (nd:=f.aA) (kI:=[]) z (vo (G:=srG f) hB l) (λy K p G=>BM (G:=srG f) hB l K G) _ 0 [] rfl (aU _);exact g
end
