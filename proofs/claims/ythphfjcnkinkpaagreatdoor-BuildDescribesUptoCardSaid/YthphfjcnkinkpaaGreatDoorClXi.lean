/- Unify (the program's) is the least upper bound. -/
import Derived.Test.YthphfjcnkinkpaaGreatDoorClXf
set_option linter.all false
open Go.IntKind (wrap)
open Int (toNat)
open List (length replicate)
namespace Go.Proofs.YthphfjcnkinkpaaGreatDoor.cl.pf
open Go Go.AM
def yV (k:Nat) (l:List cz):List cz:=l.map λa=>⟨a.bw,a.To+k⟩
def ids (s k:Nat):List Int:=(List.range' s k).map λ(x:Nat)=>(x:Int)
def abQ (s k:Nat):ids s (k+1)=(s:Int)::ids (s+1) k:=by simp[ids,ri]
def qI (s k:Nat):(ids s k).length=k:=by simp[ids]
def IB (s k j:Nat):ids s k++ids (s+k) j=ids s (k+j):=by unfold ids;rw[<-cL,List.range'_append_1]
theorem J4 {k x:Nat} (h:x<k):(ids 0 k).getD x 0=(x:Int):=by unfold ids;rw[bA,dK,List.getElem?_range' af];simp
section
variable {TL:List fM} {FL:List cW}
def h442_8 {fr:Nat} {l:List Node} {n v:Int} {q:List cz} {x:Node} {z ty:List Int} {ar:List (List cz)} {res:Unit×List Int×List Int×List (List cz)} (hf:fr<=1000000) (O:q.length<=1000000) (G:∀a∈q,0<=a.To/\a.To<=1000000) (I:ar.length<=100000000):
  ∀(xs:List cz) (i:Nat),q.drop i=xs->Lr fr l n (wrap .i64 (v+1)) TL FL z ty (ar++[yV fr q])=some res->
   QE fr l n v q (q.length:Int) (i:Int) x (yV fr (q.take i)) TL FL z ty ar=some res:=by
 intro xs;induction xs with
 |nil=>intro i w D;refine acP ?_;rw[aW w,aA,cC _ af ai af,gK (kJ w)];exact D
 |cons a xs L=>
  intro i w D;refine acP ?_;have N:=G a (aR (bV w));have K:=dN w;rw[aP w,ak,aJ w,cC _ (by unfold yV;rw[bz,e7];omega) ai af,aN w af,oE af af];have e:yV fr (q.take i)++[⟨a.bw,a.To+fr⟩]=yV fr (q.take (i+1)):=by rw[cM,bV w];simp[yV]
  rw[e];exact L (i+1) (aH w) D
def h442_2 {fr:Nat} {l:List Node} (hf:fr+l.length<=1000000) (D:∀x∈l,x.bJ.length<=1000000/\∀a∈x.bJ,0<=a.To/\a.To<=1000000):∀(xs:List Node) (i:Nat) (q ty:List Int) (ar:List (List cz)),l.drop i=xs->q.length<=fr+i->ty.length<=fr+i->ar.length<=fr+i->
  Lr (fr:Int) l (l.length:Int) (i:Int) TL FL q ty ar=some ((),q++ids (fr+i) xs.length,ty++xs.map (·.cR),ar++xs.map λx=>yV fr x.bJ):=by
 intro xs;induction xs with
 |nil=>intro i q ty ar w _ _ _;refine acO ?_;rw[aW w,aA];simp[ids]
 |cons x xs I=>intro i q ty ar w K L N;have z:=D x (aR (bV w));have G:=dN w;refine acO ?_;rw[aP w,ak,aJ w,cC _ af ai af,cC _ af ai af,oE af af];refine h442_8 af z.1 z.2 af x.bJ 0 rfl ?_;rw[aN w af,I (i+1) _ _ _ (aH w) aI aI aI,bD,abQ];have e:(fr:Int)+(i:Int)=((fr+i:Nat):Int):=af;rw[e];simp[nj]
theorem aaR {l:List Node} {q ty:List Int} {ar:List (List cz)} {fr:Nat} (z:q.length=fr) (G:ty.length=fr) (D:ar.length=fr) (hf:fr+l.length<=1000000) (w:∀x∈l,x.bJ.length<=1000000/\∀a∈x.bJ,0<=a.To/\a.To<=1000000):
  f442 l TL FL q ty ar=some ((),q++ids fr l.length,ty++l.map (·.cR),ar++l.map λx=>yV fr x.bJ):=by
 refine e442 ?_;rw[z];exact h442_2 hf w l 0 q ty ar rfl af af af
end
def JI.init {T n:Nat} {Q:List cz->Prop} {sb:Int->Int->Prop} {U:Gr} {w ty:List Int} {ar:List (List cz)} (K:∀{a},0<=a->a<(T:Int)->sb a a) (q:w=ids 0 n) (N:ty.length=n) (L:ar.length=n) (z:∀x,x<n->0<=ty.getD x 0/\ty.getD x 0<(T:Int)) (ao:∀x,x<n->Q (ar.getD x []))
  (G:∀x,x<n->U.sc x=(ar.getD x []).map λa=>(a.bw,a.To.toNat)) (I:∀x,x<n->U.ty x=ty.getD x 0):JI T Q sb U n [] [] w ty ar id (λ_=>0):=by
 subst q;refine⟨⟨qI _ _,λx l=>⟨x,l,J4 l,rfl, .inl rfl⟩,λx l=>by rw[J4 l];simp,λx l=>l,λx _=>rfl⟩,N,L,z,ao,(λp q=>by cases q),λx l=> ?_,λx l p q=> ?_,(λp q=>by cases q),λC m O D=>⟨λx _=>rfl,λx l _=>⟨?_,λa h=> ?_⟩,(λp q=>by cases q)⟩⟩
 .rw[I x l];exact K (z x l).1 (z x l).2
 .rw[G x l] at q;obtain⟨a,h,rfl⟩:=aG.1 q;exact⟨a,h,rfl, .xY rfl⟩
 .rw[<-I x l];exact D.ty x l
 .exact D.ar x l (a.bw,a.To.toNat) (by rw[G x l];exact aG.2 ⟨a,h,rfl⟩)
def Can.ao {T F:Nat} {f:FSt} (h:Can T F f) {x:Node} (G:x∈f.au):AO F (f.au.length) x.bJ:=by
 obtain⟨i,z⟩:=iG.1 G;have l:i<f.au.length:=(bR.1 z).1;have q:f.au[i]=x:=(bR.1 z).2;have e:iD f i=PX x:=by rw[sN l,q]
 refine⟨?_,λa w=> ?_⟩
 .have:=h.wT i;rw[e] at this;unfold yb PX at this;rw[jd] at this;exact this
 .have D:(a.bw,a.To.toNat)∈iD f i:=by rw[e];exact aG.2 ⟨a,w,rfl⟩
  have I:=h.go.ft i l _ D;have K:=h.bd i l _ D;have L:=h.nn G w;exact⟨I,L,by simp only at K;omega⟩
def Can.Um {T F:Nat} {f:FSt} (h:Can T F f) {x:Node} (z:x∈f.au):0<=x.cR/\x.cR<(T:Int):=by
 obtain⟨i,w⟩:=iG.1 z;have l:i<f.au.length:=(bR.1 w).1;have q:f.au[i]=x:=(bR.1 w).2;have:=h.go.tp i l;have e:(jI f).ty i=x.cR:=by show mI f i=_;rw[oa l,q]
 rwa[e] at this
def AO.sh {F n k N:Nat} {l:List cz} (h:AO F n l) (z:n+k<=N):AO F N (yV k l):=by
 refine⟨?_,λa q=> ?_⟩
 .unfold HR yV;rw[jd];exact h.wT
 .obtain⟨b,w,rfl⟩:=aG.1 q;have:=h.ok b w;exact⟨this.1,by show 0<=b.To+(k:Int);omega,by show b.To+(k:Int)<(N:Int);omega⟩
def Yp {F n k:Nat} {l:List cz} (h:AO F n l):((yV k l).map λa=>(a.bw,a.To.toNat))=(l.map λa=>(a.bw,a.To.toNat)).map λp=>(p.1,p.2+k):=by
 unfold yV;rw[e8,e8];refine iE λa q=> ?_
 have:=(h.ok a q).2;show(a.bw,(a.To+(k:Int)).toNat)=(a.bw,a.To.toNat+k)
 congr 1;omega
def kP {q w:Type} {l:List q} {g:q->w} {i:Nat} {d:w} (h:i<l.length):(l.map g).getD i d=g l[i]:=by rw[bA,dK,aM h];rfl
def zM {q:Type} {l m:List q} {i:Nat} {d:q} (h:i<l.length):(l++m).getD i d=l.getD i d:=by rw[bA,bA,fV h]
def Dx {q:Type} {l m:List q} {i:Nat} {d:q} (h:l.length<=i):(l++m).getD i d=m.getD (i-l.length) d:=by rw[bA,bA,gD h]
def Can.small {T F:Nat} {f:FSt} (h:Can T F f) (hn:f.au.length<=1000000) (hF:F<=1000000):∀x∈f.au,x.bJ.length<=1000000/\∀a∈x.bJ,0<=a.To/\a.To<=1000000:=λx q=>by have:=h.ao q;exact⟨fU this.len hF,λa l=>by have:=(this.ok a l).2;omega⟩
section
variable {h:aK} {T F:Nat} {sb:Int->Int->Prop} (H:HM h T sb) {A B:FSt} (hA:Can T F A) (hB:Can T F B) (hF:F<=400) (hn:A.au.length+B.au.length<=1000000)
include H hA hB hF hn
theorem Y2:JI T (AO F (A.au.length+B.au.length)) sb (ry A B) (A.au.length+B.au.length) [] [] (ids 0 (A.au.length)++ids (A.au.length) (B.au.length)) (A.au.map (·.cR)++B.au.map (·.cR)) ((A.au.map λx=>yV 0 x.bJ)++B.au.map λx=>yV (A.au.length) x.bJ) id (λ_=>0):=by
 have I:ids 0 (A.au.length)++ids (A.au.length) (B.au.length)=ids 0 (A.au.length+B.au.length):=by have:=IB 0 (A.au.length) (B.au.length);rwa[eO] at this
 have D:∀x,(q:x<A.au.length)->((A.au.map λx=>yV 0 x.bJ)++B.au.map λx=>yV (A.au.length) x.bJ).getD x []=yV 0 A.au[x].bJ:=λx q=>by rw[zM (by simpa using q),kP q]
 have G:∀x,(q:x<A.au.length+B.au.length)->(l:¬x<A.au.length)->((A.au.map λx=>yV 0 x.bJ)++B.au.map λx=>yV (A.au.length) x.bJ).getD x []=yV (A.au.length) (B.au[x-A.au.length]'(by omega)).bJ:=λx q l=>by
  rw[Dx aI]
  have:x-(A.au.map λx=>yV 0 x.bJ).length=x-A.au.length:=ai
  rw[this,kP af]
 have w:∀x,(q:x<A.au.length)->(A.au.map (·.cR)++B.au.map (·.cR)).getD x 0=A.au[x].cR:=λx q=>by rw[zM (by simpa using q),kP q]
 have z:∀x,(q:x<A.au.length+B.au.length)->(l:¬x<A.au.length)->(A.au.map (·.cR)++B.au.map (·.cR)).getD x 0=(B.au[x-A.au.length]'(by omega)).cR:=λx q l=>by
  rw[Dx aI]
  have:x-(A.au.map (·.cR)).length=x-A.au.length:=ai
  rw[this,kP af]
 refine JI.init H.to.refl I ai ai (λx q=> ?_) (λx q=> ?_) (λx q=> ?_) (λx q=> ?_)<;>by_cases l:x<A.au.length
 .rw[w x l];exact hA.Um (bB l)
 .rw[z x q l];exact hB.Um (bB _)
 .rw[D x l];exact(hA.ao (bB l)).sh af
 .rw[G x q l];exact(hB.ao (bB _)).sh af
 .rw[D x l,Yp (hA.ao (bB l)),(Bm l).1,sN l];exact(pY _).symm
 .rw[G x q l,Yp (hB.ao (bB _)),(Bn l).1,sN af];rfl
 .rw[w x l,(Bm l).2,oa l]
 .rw[z x q l,(Bn l).2,oa af]
theorem c433:(∃f,f433 h A B=some (f,true)/\Uw T F sb A B f)\/(f433 h A B=some (⟨[]⟩,false)/\∀C,Can T F C->Le sb A C->Le sb B C->False):=by
 have G:f442 A.au h.Types h.bC [] [] []=some ((),ids 0 (A.au.length),A.au.map (·.cR),A.au.map λx=>yV 0 x.bJ):=by rw[aaR (fr:=0) rfl rfl rfl af (hA.small af af)];simp
 have I:f442 B.au h.Types h.bC (ids 0 (A.au.length)) (A.au.map (·.cR)) (A.au.map λx=>yV 0 x.bJ)=some ((),ids 0 (A.au.length)++ids (A.au.length) (B.au.length),A.au.map (·.cR)++B.au.map (·.cR),(A.au.map λx=>yV 0 x.bJ)++B.au.map λx=>yV (A.au.length) x.bJ):=
  aaR (fr:=A.au.length) (qI _ _) ai ai hn (hB.small af af)
 have q:(A.au.length+B.au.length) *F<=400000000:=by have:=nU hn hF;omega
 have K:0<A.au.length+B.au.length:=by have:=hA.ne;omega
 have l:A.au.length<A.au.length+B.au.length:=by have:=hB.ne;omega
 rcases c443 H af K l q (Y2 H hA hB hF hn) with⟨D,ty,ar,rep,d,z,J⟩|⟨⟨D,ty,ar,z⟩,w⟩
 .obtain⟨N,g⟩:=c444 (TL:=h.Types) (FL:=h.bC) (d:=d) J.la J.lt J.ao J.pi.rl J.pi.rr af hn K J.pi;refine .inl ⟨_,e433 ?_,RO H.to hA hB (J.uni (both_go hA hB).bd)⟩;rw[G,cF,I,cF];have e:(0:Int)=((0:Nat):Int):=rfl;rw[e,z,cF,cond_neg (by rfl),g,cF]
 .refine .inr ⟨e433 ?_,λC L O P=> ?_⟩
  .rw[G,cF,I,cF];have e:(0:Int)=((0:Nat):Int):=rfl;rw[e,z,cF,cond_pos (by rfl)]
  .obtain⟨m,_,Q⟩:=Jv hA hB L O P;exact w (jI C) m L.LW Q
end
end Go.Proofs.YthphfjcnkinkpaaGreatDoor.cl.pf
namespace Go.Proofs.YthphfjcnkinkpaaGreatDoor.cl.pf
open Go Go.AM
def sS (x:cz):List cz->List cz
 |[]=>[x]
 |y::l=>if y.bw<=x.bw then y::sS x l else x::y::l
def AY (l:List cz):List cz:=l.foldl (λo x=>sS x o) []
def RD (l:List cz):Prop:=l.Pairwise λa b=>a.bw<=b.bw
def J7 {x a:cz}:∀{l:List cz},a∈sS x l↔a=x\/a∈l
 |[]=>by simp[sS]
 |y::l=>by
  unfold sS;split
  .rw[aS,J7];grind
  .simp
def J6 {x:cz}:∀{l:List cz},(sS x l).length=l.length+1
 |[]=>rfl
 |y::l=>by unfold sS;split<;>simp[J6]
def J8 {x:cz}:∀{l:List cz},RD l->RD (sS x l)
 |[],_=>rY _ _
 |y::l,h=>by
  have z:=dU.1 h;unfold sS;split
  .rename_i w;refine dU.2 ⟨λa q=> ?_,J8 z.2⟩;rcases J7.1 q with rfl|q
   .exact w
   simp_all
  .refine dU.2 ⟨λa q=> ?_,h⟩;grind
def J5 {x:cz} {w:List cz} (z:∀a∈w,x.bw<a.bw):∀{u:List cz},(∀a∈u,a.bw<=x.bw)->sS x (u++w)=u++[x]++w
 |[],_=>by cases w with
  |nil=>rfl
  |cons y w=>simp_all[sS,az]
 |y::u,l=>by show sS x (y::(u++w))=_;unfold sS;rw[aB (l y ai),J5 z λa q=>l a (by simp[q])];rfl
def qM:∀(l:List cz),RD (AY l)/\(AY l).length=l.length/\∀a,a∈AY l↔a∈l:=by
 intro l;unfold AY;have key:∀(l o:List _),RD o->RD (l.foldl (λo x=>sS x o) o)/\(l.foldl (λo x=>sS x o) o).length=o.length+l.length/\∀a,a∈l.foldl (λo x=>sS x o) o↔a∈o\/a∈l:=by intro l;induction l with
  |nil=>simp
  |cons x l D=>intro o h;obtain⟨q,w,z⟩:=D _ (J8 h);refine⟨q,by rw[gx,w,J6,bD];omega,λa=> ?_⟩;rw[gx,z a,J7];grind
 have:=key l _ List.Pairwise.nil;simp_all
def srt_id {l:List cz} (h:HR l):AY l=l:=by
 have key:∀(l o:List cz),HR (o++l)->l.foldl (λo x=>sS x o) o=o++l:=by intro l;induction l with
  |nil=>intro o _;simp
  |cons x l w=>
   intro o h;have e:sS x o=o++[x]:=by
    have:=J5 (x:=x) (w:=[]) (λa q=>by cases q) (u:=o) (λa q=>by
     unfold HR at h;rw[rP] at h
     have:=h.2.2 a q x (by simp);omega)
    simpa using this
   rw[gx,e,w (o++[x]) (by simpa using h)];simp
 exact key l [] (by simpa using h)
def P3 {l:List cz} (h:(l.map (·.bw)).Nodup):HR (AY l):=by
 obtain⟨z,_,G⟩:=qM l;have q:((AY l).map (·.bw)).Nodup:=by
  have key:∀(l o:List _),((o++l).map (·.bw)).Nodup->((l.foldl (λo x=>sS x o) o).map (·.bw)).Nodup:=by intro l;induction l with
   |nil=>simp
   |cons x l I=>
    have w:∀o:List _,((sS x o).map (·.bw)).Perm ((o++[x]).map (·.bw)):=by intro o;induction o with
     |nil=>rfl
     |cons y o D=>unfold sS;grind
    grind
  exact key l _ (by assumption)
 unfold List.Nodup at q;rw[jd] at q;exact(z.and q).imp λ{a b} h=>by omega
def h463_6 {l:List cz} {i:Nat} {x:cz} {res:List cz} (P:l[i]? =some x) (hl:l.length<=1000000) {o:List cz} (ho:o.length<=1000000) (Q:RD o)
  (S:Ah l ((i+1:Nat):Int) (sS x o)=some res):∀(v:Nat),v<=o.length->(∀a∈o.drop v,x.bw<a.bw)->I5 l (i:Int) (v:Int) o=some res:=by
 have V:i<l.length:=(bR.1 P).1;have G:∀(v:Nat),v<=o.length->(∀a∈o.drop v,x.bw<a.bw)->(∀a∈o.take v,a.bw<=x.bw)->
   check (0<=(v:Int)/\(v:Int)<=((o.length:Nat):Int)) (
   check ((length ([]:List cz)+length ((o.take (toNat (v:Int))).drop 0)) *16<=140737488355328/\length ([]:List cz)+length ((o.take (toNat (v:Int))).drop 0)<=4611686018427387904) (
   bf l (i:Int) λq=>
   check ((length (([]:List cz)++((o.take (toNat (v:Int))).drop 0))+length [q]) *16<=140737488355328/\length (([]:List cz)++((o.take (toNat (v:Int))).drop 0))+length [q]<=4611686018427387904) (
   check (0<=(v:Int)/\(v:Int)<=((o.length:Nat):Int)) (
   check ((length ((([]:List cz)++((o.take (toNat (v:Int))).drop 0))++[q])+length ((o.take (length o)).drop (toNat (v:Int)))) *16<=140737488355328/\length ((([]:List cz)++((o.take (toNat (v:Int))).drop 0))++[q])+length ((o.take (length o)).drop (toNat (v:Int)))<=4611686018427387904) (
   Ah l (wrap .i64 ((i:Int)+1)) (((([]:List cz)++((o.take (toNat (v:Int))).drop 0))++[q])++((o.take (length o)).drop (toNat (v:Int)))))))))=some res:=by
  intro v L D R;have e:(o.take v++[x])++o.drop v=sS x o:=by have:=J5 (x:=x) D R;rw[lT] at this;exact this.symm
  rw[bT ⟨af,af⟩,aT,nR,cC _ ai (by rw[e7];omega) af,gM P,dQ,cC _ (by rw[e7];omega) ai af,bT ⟨af,af⟩,fT,cC _ aI aI af,e,bM af];exact S
 intro v;induction v with
 |zero=>intro L D;refine X1 ?_;rw[cond_neg (by rfl)];exact G 0 L D (λa w=>by cases w)
 |succ v U=>
  intro L D;refine X1 ?_;have z:v<o.length:=L;rw[cond_pos (by rw[bg];omega),oF af,Ay z,aT,oL z,gM P];by_cases N:x.bw<o[v].bw
  .rw[cond_pos (by rw[bg];exact N)];refine U af λa w=> ?_
   rw[iH z] at w;rcases aS.1 w with rfl|w
   .exact N
   .exact D a w
  .rw[cond_neg (by rw[aQ];exact N)];refine G (v+1) L D λa w=> ?_
   rw[cM,aM z] at w;unfold RD at Q;rcases bu.1 w with w|w
   .obtain⟨j,I⟩:=iG.1 w;rw[oU] at I;split at I
    .rename_i O;have K:j<o.length:=af;rw[aM K] at I;cases I;have:=nQ.1 Q j v K z O;omega
    .cases I
   .simp at w;subst w;omega
def h463 {l:List cz} (D:l.length<=1000000):∀(xs:List cz) (i:Nat) (o:List cz),l.drop i=xs->RD o->o.length<=i->Ah l (i:Int) o=some (xs.foldl (λo x=>sS x o) o):=by intro xs;induction xs with
 |nil=>intro i o q _ _;refine X0 ?_;rw[aW q,aA];rfl
 |cons x xs I=>intro i o q z K;have G:=dN q;refine X0 ?_;rw[aP q,ak];refine h463_6 (bV q) D af z ?_ o.length (aZ _) (λa w=>by rw[rL] at w;cases w);exact I (i+1) (sS x o) (aH q) (J8 z) (by rw[J6];omega)
def c463 {l:List cz} (q:l.length<=1000000):f463 l=some (AY l):=e463 (h463 q l 0 [] rfl List.Pairwise.nil (aZ _))
def A2 (f:FSt) (n:Nat):List (Int×Nat):=match f.au[n]? with
 |some x=>(AY x.bJ).map λa=>(a.bw,a.To.toNat)
 |none=>[]
def Ab (f:FSt):Gr:=⟨A2 f,mI f⟩
def NR (f:FSt):Prop:=∀x∈f.au,x.bJ.length<=1000000/\∀a∈x.bJ,0<=a.To/\a.To<(f.au.length:Int)
theorem wD {f:FSt} {n:Nat} (h:n<f.au.length):A2 f n=(AY f.au[n].bJ).map λa=>(a.bw,a.To.toNat):=by unfold A2;rw[aM h]
def K6 {f:FSt} (h:NR f):Bd (Ab f).sc f.au.length:=λn hn p l=>by have l:p∈A2 f n:=l;rw[wD hn] at l;obtain⟨a,q,rfl⟩:=aG.1 l;have:=(h _ (bB hn)).2 a ((qM _).2.2 a|>.1 q);show a.To.toNat<_;omega
def fZ (o:List Nat):List Int:=o.map λ(x:Nat)=>(x:Int)
section
variable {f:FSt} (hf:NR f) (hn:f.au.length<=1000000)
include hf hn
theorem h455_4 {k:Nat} (ih:∀(x:Nat) (o:List Nat) (num:List Int),x<f.au.length->x∉o->NO f.au.length num o->Met f.au.length o->f.au.length<k+o.length->
   ∃l,f455 (x:Int) f.au num (fZ o)=some ((),l,fZ (nh (A2 f) k x o))/\NO f.au.length l (nh (A2 f) k x o)) {as_:List cz} (has:as_.length<=1000000) (Q:∀a∈as_,0<=a.To/\a.To<(f.au.length:Int)):
  ∀(xs:List cz) (i:Nat) (o:List Nat) (num:List Int),as_.drop i=xs->NO f.au.length num o->Met f.au.length o->f.au.length<k+o.length->
   ∃l,Lz as_ (i:Int) f.au num (fZ o)=some ((),l,fZ (rJ (A2 f) k (xs.map λa=>(a.bw,a.To.toNat)) o))/\NO f.au.length l (rJ (A2 f) k (xs.map λa=>(a.bw,a.To.toNat)) o):=by
 intro xs;induction xs with
 |nil=>intro i o num q z _ _;refine⟨num,VI ?_,z⟩;rw[aW q,aA];rfl
 |cons a xs G=>
  intro i o num q z O U;have ha:=Q a (aR (bV q));obtain⟨x,R⟩:=dM ha.1;have w:x<f.au.length:=af;have S:a.To.toNat=x:=af;have hlt:=dN q;have D:x<num.length:=by rw[z.len];exact w
  simp only[bS,rJ,gx,S];by_cases K:x∈o
  .have ev:nh (A2 f) k x o=o:=by
    cases k with
    |zero=>rfl
    |succ k=>rw[nh,aB K]
   rw[ev];obtain⟨l,L,N⟩:=G (i+1) o num (aH q) z O U;refine⟨l,VI ?_,N⟩;rw[aP q,ak,aJ q,R,qE D,z.at_ x w,aB K,cond_neg (by rw[aQ];omega),aN q af];exact L
  .obtain⟨I,f1,N1⟩:=ih x o num w K z O U;have P:=Ap (K6 hf) k x o O w;have V:=Ja (sc:=A2 f) k x o;obtain⟨l,L,N⟩:=G (i+1) _ I (aH q) N1 P af;refine⟨l,VI ?_,N⟩;rw[aP q,ak,aJ q,R,qE D,z.at_ x w,az K,cond_pos (by rfl),aJ q,R,f1,bG,aN q af];exact L
theorem h455:∀(k x:Nat) (o:List Nat) (num:List Int),x<f.au.length->x∉o->NO f.au.length num o->Met f.au.length o->f.au.length<k+o.length->
  ∃l,f455 (x:Int) f.au num (fZ o)=some ((),l,fZ (nh (A2 f) k x o))/\NO f.au.length l (nh (A2 f) k x o):=by
 intro k;induction k with
 |zero=>intro x o num _ _ _ w R;have:=s5 w.nd w.lt;omega
 |succ k U=>
  intro x o num z q K w R;have G:x<num.length:=by rw[K.len];exact z
  have S:=s5 w.nd w.lt;obtain⟨D,I⟩:=hf _ (bB z);obtain⟨s1,V,s3⟩:=qM f.au[x].bJ;obtain⟨l,O,P⟩:=h455_4 hf hn U (as_:=AY f.au[x].bJ) (by rw[V];exact D) (λa Q=>I a ((s3 a).1 Q)) (AY f.au[x].bJ) 0 (o++[x]) (num.set x (o.length:Int)) rfl (K.snoc z q) (w.snoc z q) (by simp only[cE,dV];omega);have N:nh (A2 f) (k+1) x o=rJ (A2 f) k ((AY f.au[x].bJ).map λa=>(a.bw,a.To.toNat)) (o++[x]):=by rw[nh,az q,wD z]
  rw[N];refine⟨l,e455 ?_,P⟩;rw[qE G,cC _ (by unfold fZ;rw[bz];omega) ai af,bU z,c463 D,aj,aT];have e:fZ o++[(x:Int)]=fZ (o++[x]):=by simp[fZ]
  have L:((fZ o).length:Int)=(o.length:Int):=by simp[fZ]
  rw[e,L];exact O
theorem h436_14 {i:Nat} {P Q:FSt} {x:Node} {nd w l:List Node} {num q:List Int} {o:List Nat} (L:NO f.au.length num o) (h52:w.length<=1000000) {res:FSt}:∀(xs done:List cz),done.length+xs.length<=1000000->(∀a∈xs,0<=a.To/\a.To<(f.au.length:Int)/\a.To.toNat∈o)->
  GC (wrap .i64 ((i:Int)+1)) P Q nd (w++[⟨x.cR,done++xs.map λa=>⟨a.bw,(o.idxOf a.To.toNat:Nat)⟩⟩]) l num q=some res->
  Fv (i:Int) (done.length:Int) P Q x nd (done++xs) w l num q=some res:=by
 intro xs;induction xs with
 |nil=>intro done O _ z;refine S6 ?_;rw[cond_neg (by rw[aQ];simp),cC _ af ai af,dF];rw[fI,dF] at z;exact z
 |cons a xs ih=>
  intro done O D z;simp only[bD] at O;obtain⟨S,h2,K⟩:=D a ai;obtain⟨y,V⟩:=dM S;have G:y<f.au.length:=af;have I:a.To.toNat=y:=af;rw[I] at K;have N:∀{R:Type} (k:cz->Option R),dO (done++a::xs) done.length k=k a:=λk=>kW ai k
  refine S6 ?_;rw[cond_pos (by rw[bg];simp;omega),Ay ai,aT,N,V,qE (by rw[L.len];exact G),L.at_ y G,aB K,bT ⟨af,ai⟩,N,bM af,lJ _ _ (aZ _),kC,lU]
  have:=ih (done++[⟨a.bw,(o.idxOf y:Nat)⟩]) aI (λb U=>D b (by simp[U])) (by
   rw[bS,I] at z
   rw[ef];exact z)
  rw[cE,dV,ef] at this;exact this
theorem h436_9 {o4:FSt} {nd kz:List Node} {num:List Int} {o:List Nat} (R:NO f.au.length num o) (G:Met f.au.length o) (K:∀y∈o,∀p∈A2 f y,p.2∈o):
  ∀(xs:List Nat) (i:Nat) (l:List Node),o.drop i=xs->l.length<=i->GC (i:Int) f o4 nd l kz num (fZ o)=some ⟨l++xs.map (FP (Ab f) o)⟩:=by
 have U:=s5 G.nd G.lt;intro xs;induction xs with
 |nil=>intro i l q _;refine acK ?_;have S:=kJ q;rw[cond_neg (by rw[aQ];simp[fZ];omega)];simp
 |cons y xs V=>
  intro i l q h52;have w:=dN q;have D:y∈o:=aR (bV q);have z:=G.lt y D;obtain⟨I,O⟩:=hf _ (bB z);obtain⟨s1,s2,s3⟩:=qM f.au[y].bJ;have N:i<(fZ o).length:=by simp[fZ];exact w
  have L:(fZ o).getD i 0=(y:Int):=by unfold fZ;rw[kP w];have:=bV q;rw[aM w] at this;rw[fR this]
  refine acK ?_;rw[cond_pos (by rw[bg];omega),qE N,L,bU z,c463 I,aj];have e0:((([]:List cz).length:Nat):Int)=0:=rfl;refine h436_14 hf hn R af (AY f.au[y].bJ) [] aI (λa Q=> ?_) ?_
  .have P:=O a ((s3 a).1 Q);refine⟨P.1,P.2,K y D (a.bw,a.To.toNat) ?_⟩;rw[wD z];exact aG.2 ⟨a,Q,rfl⟩
  .rw[aN q af,V (i+1) _ (aH q) aI];have e:FP (Ab f) o y=⟨f.au[y].cR,[]++(AY f.au[y].bJ).map λa=>⟨a.bw,(o.idxOf a.To.toNat:Nat)⟩⟩:=by
    show(⟨mI f y,(A2 f y).map _⟩:Node)=_;rw[oa z,wD z,e8];rfl
   rw[bS,e,ef];rfl
theorem h436_3 {root:Nat} {o4:FSt} {nd kz:List Node} {res:FSt} (D:(eM (f455 (root:Int) nd (replicate f.au.length (-1)) []) λw l q=>GC 0 f o4 nd ([]:List Node) kz l q)=some res):
  ∀(k i:Nat),f.au.length=i+k->QB (root:Int) (i:Int) f o4 nd kz (replicate i (-1)) []=some res:=by
 intro k;induction k with
 |zero=>intro i z;refine acJ ?_;have e:i=f.au.length:=af;subst e;rw[cond_neg (by rw[aQ];omega)];exact D
 |succ k G=>intro i z;refine acJ ?_;rw[cond_pos (by rw[bg];omega),cC _ aI ai af,bM af,<-qa];exact G (i+1) af
theorem c436 {root:Nat} (l:root<f.au.length):f436 f (root:Int)=some (kI (Ab f) f.au.length root):=by
 have D:NO f.au.length (replicate f.au.length (-1)) []:=⟨ai,λx I=>by rw[az ai,bA,nT,aB I];rfl⟩
 obtain⟨w,q,z⟩:=h455 hf hn (f.au.length+1) root [] _ l ai D Met.nil ai;have hB:=K6 hf;refine e436 ?_;refine h436_3 hf hn ?_ f.au.length 0 af
 have:fZ ([]:List Nat)=[]:=rfl
 rw[this] at q;rw[q,bG];have g:=h436_9 hf hn (o4:=⟨[]⟩) (nd:=f.au) (kz:=[]) z (sw (G:=Ab f) hB l) (λy K p G=>yD (G:=Ab f) hB l K G) _ 0 [] rfl (aZ _);exact g
end
end Go.Proofs.YthphfjcnkinkpaaGreatDoor.cl.pf
namespace Go.Proofs.YthphfjcnkinkpaaGreatDoor.cl.pf
open Go Go.AM
def PZ (k:Nat) (x:Node):Node:=⟨x.cR,yV k x.bJ⟩
def h448_7 {a b:List Node} {i:Nat} {x:Node} (q:b[i]? =some x) {t:Int} {o:List Node} {G:List cz} (I:a.length<=1000000) (N:o.length<=100000000) (L:x.bJ.length<=1000000) (w:∀c∈x.bJ,0<=c.To/\c.To<=1000000) {res:List Node}:
  ∀(xs:List cz) (k:Nat),x.bJ.drop k=xs->Ls a b (wrap .i64 ((i:Int)+1)) (o++[⟨t,yV a.length x.bJ⟩])=some res->
   QG a b (i:Int) (k:Int) t o G (yV a.length (x.bJ.take k))=some res:=by
 intro xs;induction xs with
 |nil=>intro k l z;refine acS ?_;rw[gM q,aW l,aA,cC _ af ai af,gK (kJ l)];omega
 |cons c xs D=>
  intro k l z;refine acS ?_;have K:=w c (aR (bV l));rw[gM q,aP l,ak,gM q,aJ l,gM q,aJ l,cC _ (by grind[yV]) ai af,aN l af,oE af af];have e:yV a.length (x.bJ.take k)++[⟨c.bw,c.To+(a.length)⟩]=yV a.length (x.bJ.take (k+1)):=by rw[cM,bV l];simp[yV]
  rw[e];exact D _ (aH l) z
def h448 {a b:List Node} (hn:a.length+b.length<=1000000) (w:∀x∈b,x.bJ.length<=1000000/\∀c∈x.bJ,0<=c.To/\c.To<=1000000):∀(xs:List Node) (i:Nat) (o:List Node),b.drop i=xs->o.length<=a.length+i->Ls a b (i:Int) o=some (o++xs.map (PZ a.length)):=by intro xs;induction xs with
 |nil=>intro i o l _;refine acR ?_;grind
 |cons x xs D=>intro i o l G;have q:=w x (aR (bV l));have z:=dN l;refine acR ?_;rw[aP l,ak,aJ l];refine h448_7 (bV l) af af q.1 q.2 _ 0 rfl ?_;rw[aN l af,D _ _ (aH l) aI];simp[PZ]
def c448 {a b:List Node} (hn:a.length+b.length<=1000000) (l:∀x∈b,x.bJ.length<=1000000/\∀c∈x.bJ,0<=c.To/\c.To<=1000000):f448 a b=some (a++b.map (PZ a.length)):=by refine e448 ?_;rw[cC _ ai af af];exact h448 hn l b 0 a rfl af
def c449 {n:Nat} (hn:n<=1000000):f449 (n:Int)=some (ids 0 n):=by
 have key:∀(k i),n=i+k->QH (n) (i) (ids 0 i)=some (ids 0 n):=by intro k;induction k with
  |zero=>simp_all[acT]
  |succ k q=>
   intro i l;refine acT ?_;have e:ids 0 i++[(i:Int)]=ids 0 (i+1):=by have:=IB 0 i 1;rw[eO] at this;rw[<-this];rfl
   rw[cC _ (by rw[qI];omega) ai af,bM af];grind
 exact e449 (key n 0 af)
def Nx (low high:Int) (l:List Int):List Int:=l.map λx=>if x=high then low else x
def h450 {low high:Int}:∀(xs done:List Int),done.length+xs.length<=1000000->Lu low high (done.length:Int) (done++xs)=some (done++Nx low high xs):=by intro xs;induction xs with
 |nil=>intro done _;refine acU ?_;rw[cond_neg ai];rfl
 |cons x xs z=>
  intro done q;refine acU ?_;have l:∀{R:Type} (k:Int->Option R),dO (done++x::xs) done.length k=k x:=λk=>kW ai k
  have w:done++Nx low high (x::xs)=(done++[if x=high then low else x])++Nx low high xs:=by simp[Nx]
  rw[cond_pos (by grind),Ay ai,aT,bM af];by_cases e:x=high
  .rw[bT ⟨af,ai⟩];grind
  grind
structure AW (F n:Nat) (l:List cz):Prop where
 nd:(l.map (·.bw)).Nodup
 ok:∀a∈l,(0<=a.bw/\a.bw<(F:Int))/\0<=a.To/\a.To<(n:Int)
def HR.nd {l:List cz} (h:HR l):(l.map (·.bw)).Nodup:=by unfold List.Nodup;rw[jd];exact h.imp λh=>by omega
def AO.aw {F n:Nat} {l:List cz} (h:AO F n l):AW F n l:=⟨h.wT.nd,h.ok⟩
def AW.AY {F n:Nat} {l:List cz} (h:AW F n l):AO F n (AY l):=⟨P3 h.nd,λa q=>h.ok a ((qM l).2.2 a|>.1 q)⟩
def AW.len {F n:Nat} {l:List cz} (h:AW F n l):l.length<=F:=by have:=h.AY.len;rwa[(qM l).2.1] at this
def nd_uniq {l:List cz} (h:(l.map (·.bw)).Nodup) {a b:cz} (q:a∈l) (w:b∈l) (e:a.bw=b.bw):a=b:=by induction l with
 |nil=>cases q
 |cons x l z=>grind
def fa (l:List cz) (f:Int):Option cz:=l.find? λa=>a.bw==f
def zL {l:List cz} {f:Int} {a:cz} (h:fa l f=some a):a∈l/\a.bw=f:=by have q:=lR h;have w:=nN h;simp_all
theorem Ez {l:List cz} {f:Int} (h:fa l f=none):∀a∈l,a.bw≠f:=λa q e=>by have:=uS.1 h a q;simp_all
def fr (l:List cz) (f:Int):Int×Bool:=match fa l f with
 |some a=>(a.To,true)
 |none=>(0,false)
def Xq (x:cz) (l:List cz) (f:Int):fr (x::l) f=if x.bw=f then(x.To,true) else fr l f:=by unfold fr fa;grind
def c491 {l:List cz} {f:Int} (z:l.length<=1000000):f491 l f=some (fr l f):=by
 have key:∀(xs) (i),l.drop i=xs->QS l f (i)=some (fr xs f):=by intro xs;induction xs with
  |nil=>intro i q;refine ac5 ?_;rw[aW q];rfl
  |cons x xs w=>intro i q;refine ac5 ?_;rw[aP q,aJ q,aJ q,aN q af,w _ (aH q),Xq];grind
 exact e491 (key l 0 rfl)
def aaS {f:FSt} {c:Nat} {x:Node} (q:f.au[c]? =some x) {JO:Int} (z:x.bJ.length<=1000000):f476 f (c:Int) JO=some (fr x.bJ JO):=by
 have key:∀(xs) (i),x.bJ.drop i=xs->QM JO x.bJ (i)=some (fr xs JO):=by intro xs;induction xs with
  |nil=>intro i l;refine ac1 ?_;rw[aW l];rfl
  |cons x xs w=>intro i l;refine ac1 ?_;rw[aP l,aJ l,aJ l,aN l af,w _ (aH l),Xq];grind
 refine e476 ?_;rw[gM q];grind
def rm (l q:List cz):List cz×List dD:=(l++q.filter λh=>(fa l h.bw).isNone,q.filterMap λh=>(fa l h.bw).map λa=>⟨a.To,h.To⟩)
def rm_ok (q D:List cz):MG q D (rm q D):=by
 refine⟨λa l=> ?_,λa l=>cO _ l,λa l=> ?_,λp I=> ?_,D4 _ _⟩
 .exact(bu.1 l).imp id λh=>(c7.1 h).1
 .cases e:fa _ _ with
  |none=>exact⟨a,gG _ (c7.2 ⟨l,by rw[e];rfl⟩),rfl, .inl rfl⟩
  |some b=>obtain⟨w,z⟩:=zL e;exact⟨b,cO _ w,z, .inr (fe.2 ⟨a,l,by rw[e];rfl⟩)⟩
 .obtain⟨h,K,e⟩:=fe.1 I;cases G:fa q h.bw with
  |none=>simp_all
  |some b=>obtain⟨w,z⟩:=zL G;grind
def rm_aw {F n:Nat} {l D:List cz} (q:AW F n l) (w:AW F n D):AW F n (rm l D).1:=by
 refine⟨?_,λa z=>((rm_ok _ _).sub a z).elim (q.ok a) (w.ok a)⟩;show((l++_).map _).Nodup;rw[cL,ig];refine⟨q.nd,?_,λx G y I e=> ?_⟩
 .exact(zj.map _).nodup w.nd
 .obtain⟨a,z,rfl⟩:=aG.1 G;obtain⟨b,K,rfl⟩:=aG.1 I;simp_all[fa]
section
variable {n:Nat} {out:List Int} {ar:List (List cz)}
def h451_23 {i:Nat} {z G:Nat} (D:z<ar.length) (w:G<ar.length) (I:(ar.getD z []).length<=1000000) (O:(ar.getD G []).length<=1000000) {res:List Int}:∀(xs:List cz) (k:Nat) (l:List dD) (both:List cz),(ar.getD G []).drop k=xs->l.length+xs.length<=1000000000->both.length+xs.length<=2000000->
  tL (wrap .i64 ((i:Int)+1)) (l++xs.filterMap λh=>(fa (ar.getD z []) h.bw).map λa=>⟨a.To,h.To⟩) out (ar.set z (both++xs.filter λh=>(fa (ar.getD z []) h.bw).isNone))=some res->
  Fw (i:Int) (z:Int) (G:Int) (k:Int) l out ar both=some res:=by
 intro xs;induction xs with
 |nil=>intro k l both q _ _ P;refine XV ?_;rw[rdL w,aW q,rdL D];simp_all
 |cons x xs K=>intro k l both q L N P;simp at L N;refine XV ?_;rw[rdL w,aP q,ak,rdL w,aJ q,rdL D,c491 I,aj,aN q af];unfold fr;cases e:fa _ _ with
  |none=>rw[cond_neg (by rfl),cC _ af ai af];refine K _ _ _ (aH q) af aI ?_;simp_all
  |some a=>rw[cond_pos (by rfl),cC _ af ai af];refine K _ _ _ (aH q) aI af ?_;simp_all
def h451_17 {i:Nat} {q l:Nat} {todo:List dD} (w:q<ar.length) (z:l<ar.length) (D:(ar.getD q []).length<=1000000) (G:(ar.getD l []).length<=1000000) (O:todo.length<=500000000) {res:List Int}:∀(xs done:List Int),done.length+xs.length<=1000000->
  tL (wrap .i64 ((i:Int)+1)) (todo++(rm (ar.getD q []) (ar.getD l [])).2) (done++Nx q l xs) (ar.set q (rm (ar.getD q []) (ar.getD l [])).1)=some res->
  Ag (i:Int) (q:Int) (l:Int) (done.length:Int) todo (done++xs) ar=some res:=by
 intro xs;induction xs with
 |nil=>intro done I K;refine XU ?_;rw[cond_neg ai,rdL w,cC _ ai af af,dQ];exact h451_23 w z D G (ar.getD l []) 0 todo _ rfl af af K
 |cons x xs P=>
  intro done I K;simp at I;refine XU ?_;have L:∀{R:Type} (k:Int->Option R),dO (done++x::xs) done.length k=k x:=λk=>kW ai k
  have N:done++Nx q l (x::xs)=(done++[if x=(l) then(q:Int) else x])++Nx q l xs:=by simp[Nx]
  rw[cond_pos (by grind),Ay ai,aT,L,bM af];by_cases e:x=(l)
  .rw[bT ⟨af,ai⟩];grind
  grind
end
def PI.xY {n:Nat} {out:List Int} {rep:Nat->Nat} (z:out.length=n) (D:∀x,x<n->out.getD x 0=(rep x:Nat)) (q:∀x,x<n->rep x<n) (w:∀x,x<n->rep (rep x)=rep x):PI n out rep (λx=>if rep x=x then 0 else 1):=by
 refine⟨z,λx l=>⟨_,q x l,D x l,w x l,?_⟩,λx l=> ?_,q,w⟩
 .grind
 grind
def Yn {low high:Int} {l:List Int} {x:Nat} (q:x<l.length):(Nx low high l).getD x 0=if l.getD x 0=high then low else l.getD x 0:=by simp_all[Nx]
abbrev sbT:Int->Int->Prop:=λ_ _=>True
def h451_11 {F n:Nat} {U:Gr} {W:List (Nat×Nat)} {ty:List Int} (hn:n<=1000000) (hF:F<=1000000):∀(c k i:Nat) (w:List dD) (out:List Int) (ar:List (List cz)) (rep d:Nat->Nat),
  cnt n rep<=c->w.length-i<=k->i<=w.length->w.length+cnt n rep *F<=400000000->(∀x,x<n->out.getD x 0=(rep x:Nat))->JI 1 (AW F n) sbT U n W (w.drop i) out ty ar rep d->
  ∃z G D O,tL (i:Int) w out ar=some z/\(∀x,x<n->z.getD x 0=(D x:Nat))/\∃ty',JI 1 (AW F n) sbT U n W [] z ty' G D O:=by
 intro c;induction c using Nat.strongRecOn generalizing ty with
 |ind c ihc=>
 intro k;induction k with
 |zero=>intro i w out ar rep d hc hk hi hb S J;have e:i=w.length:=af;subst e;rw[rL] at J;exact⟨out,ar,rep,d,XT (by rw[cond_neg (by rw[aQ];omega)]),S,ty,J⟩
 |succ k ihk=>
  intro i w out ar rep d hc hk hi hb S J;by_cases hlt:i<w.length
  .have hd:w.drop i=w[i]::w.drop (i+1):=iH hlt;generalize hp:w[i]=p at hd;have J:=J.mem (wt':=w.drop (i+1)++[p]) (λq=>by grind);obtain⟨⟨p1,p2⟩,p3,p4⟩:=J.wo p ai;obtain⟨I,hx0⟩:=dM p1;obtain⟨K,hx1⟩:=dM p3;have L:I<n:=af;have N:K<n:=af;have r0:p.a0.toNat=I:=af;have r1:p.a1.toNat=K:=af;have hol:out.length=n:=J.pi.len;have hg:∀{R:Type} (kk:dD->Option R),check (0<=(i:Int)/\toNat (i:Int)<w.length) (dO w (toNat (i:Int)) kk)=kk p:=λkk=>by
    rw[Ay hlt,aT,oL hlt,hp]
   have step:∀(r:List Int),(bif((if((rep K:Nat):Int)<((rep I:Nat):Int) then((rep K:Nat):Int) else((rep I:Nat):Int))==(if((rep K:Nat):Int)>((rep I:Nat):Int) then((rep K:Nat):Int) else((rep I:Nat):Int))) then tL ((i+1:Nat):Int) w out ar
     else Ag (i:Int) (if((rep K:Nat):Int)<((rep I:Nat):Int) then((rep K:Nat):Int) else((rep I:Nat):Int)) (if((rep K:Nat):Int)>((rep I:Nat):Int) then((rep K:Nat):Int) else((rep I:Nat):Int)) 0 w out ar)=some r->tL (i:Int) w out ar=some r:=by
    intro r hr;refine XT ?_;rw[cond_pos (by rw[bg];omega),hg,hx0,qE af,S I L,hg,hx1,qE af,S K N,hg,hx0,qE af,S I L,hg,hx1,qE af,S K N,bM af];exact hr
   by_cases P:rep I=rep K
   .have J3:=J.skip (by rw[r0,r1];exact P);obtain⟨z,G,D,O,g1,g2,g3⟩:=ihk (i+1) w out ar rep d hc af af hb S J3;exact⟨z,G,D,O,step _ (by rw[P,cond_pos ai];exact g1),g2,g3⟩
   ·
    have fin:∀(a b:Nat),a≠b->a<n->b<n->∀(q:dD),rep q.a0.toNat=a->rep q.a1.toNat=b->JI 1 (AW F n) sbT U n W (w.drop (i+1)++[q]) out ty ar rep d->
      ∃z G D O,Ag (i:Int) (a:Int) (b:Int) 0 w out ar=some z/\(∀x,x<n->z.getD x 0=(D x:Nat))/\∃ty',JI 1 (AW F n) sbT U n W [] z ty' G D O:=by
     intro a b hab V hbn q hqa hqb Q;have hal:a<ar.length:=by rw[Q.la];exact V
     have Xx:b<ar.length:=by rw[Q.la];exact hbn
     have la:=(Q.ao _ V).len;have lb:=(Q.ao _ hbn).len;have M:=rm_ok (ar.getD a []) (ar.getD b []);have Jm:=Q.merge hqa hqb hab (λl hl c hc=>(hl.ok c hc).2) (λ_ _=>trivial) M (rm_aw (Q.ao _ V) (Q.ao _ hbn)) (t:=0) ⟨af,af⟩ trivial trivial (λ_ _ _=>trivial);have hcm:=MN Q hqa hqb hab;have ho':∀x,x<n->(Nx a b out).getD x 0=(((λx=>if rep x=b then a else rep x) x:Nat):Int):=λx hx=>by
      rw[Yn af,S x hx];show _=(((if rep x=b then a else rep x):Nat):Int)
      by_cases e:rep x=b
      .rw[aB af,aB e]
      .rw[az af,az e]
     have J3:=Jm.qN (PI.xY (out:=Nx a b out) (by unfold Nx;rw[bz];exact hol) ho' Jm.pi.rl Jm.pi.rr);have hmul:(cnt n (λx=>if rep x=b then a else rep x)+1) *F<=cnt n rep *F:=jS F hcm;rw[nt] at hmul;have hml:=M.le;have e3:w.drop (i+1)++(rm (ar.getD a []) (ar.getD b [])).2=(w++(rm (ar.getD a []) (ar.getD b [])).2).drop (i+1):=by grind
     rw[e3] at J3;obtain⟨z,G,D,O,g1,g2,g3⟩:=ihc _ (fH (Nat.lt_of_succ_le hcm) hc) (w++(rm (ar.getD a []) (ar.getD b [])).2).length (i+1) (w++(rm (ar.getD a []) (ar.getD b [])).2) _ _ _ _ (aZ _) af (by grind) (by grind) ho' J3;refine⟨z,G,D,O,?_,g2,g3⟩;have:=h451_17 (i:=i) (todo:=w) (ar:=ar) (res:=z) hal Xx af af af out [] aI (by rw[bM af,dQ];omega);exact this
    by_cases hlt2:rep K<rep I
    .obtain⟨z,G,D,O,g1,g2,g3⟩:=fin (rep K) (rep I) (λe=>P e.symm) (J.pi.rl _ N) (J.pi.rl _ L) ⟨p.a1,p.a0⟩ (by show rep p.a1.toNat=_;rw[r1]) (by show rep p.a0.toNat=_;rw[r0]) J.swap;refine⟨_,_,_,O,step _ ?_,g2,g3⟩;have e1:(if((rep K):Int)<((rep I)) then((rep K):Int) else((rep I)))=((rep _)):=aB af;have e2:(if((rep K):Int)>((rep I)) then((rep K):Int) else((rep I)))=((rep _)):=az af;rw[e1,e2,cond_neg (by rw[lP];omega)];exact g1
    .obtain⟨z,G,D,O,g1,g2,g3⟩:=fin _ _ P (J.pi.rl _ L) (J.pi.rl _ N) p (by rw[r0]) (by rw[r1]) J;grind
  grind
def h451_5 {l:List Node} {q a:Nat} (R:l.length<=1000000) (N:q<=a) (L:a<l.length) {out:List Int} {res:List Int} (P:tL 0 (if q=a then[] else[⟨a,q⟩]) out (l.map (·.bJ))=some res):
  ∀(k i:Nat),l.length=i+k->Lv l (Nx q a (ids 0 l.length)) (i:Int) (if a<i then(if q=a then[] else[⟨a,q⟩]) else[]) out ((l.take i).map (·.bJ)++replicate k [])=some res:=by
 intro k;induction k with
 |zero=>intro i O;refine acV ?_;have e:i=l.length:=af;subst e;rw[cond_neg (by rw[aQ];omega),aB L,fT,nS,dF];exact P
 |succ k Q=>
  intro i O;have w:i<l.length:=af;refine acV ?_;have I:i<(Nx (q:Int) (a:Int) (ids 0 l.length)).length:=by unfold Nx;rw[bz,qI];exact w
  have G:(Nx (q:Int) (a:Int) (ids 0 l.length)).getD i default=if i=a then(q:Int) else(i:Int):=by
   show List.getD _ _ 0=_;rw[Yn (by rw[qI];exact w),J4 w];by_cases e:i=a
   .rw[aB af,aB e]
   .rw[az af,az e]
  have D:i<((l.take i).map (·.bJ)++replicate (k+1) ([]:List cz)).length:=aI;have K:((l.take i).map (·.bJ)++replicate (k+1) ([]:List cz)).set i l[i].bJ=(l.take (i+1)).map (·.bJ)++replicate k []:=by
   rw[lJ _ _ aI,cM,aM w]
   have:i-((l.take i).map (·.bJ)).length=0:=aI
   rw[this,mb,lU,cL];simp
  rw[cond_pos (by rw[bg];omega),bU w,rdL D,vk I,G,aT,K,bM af];have:=Q (i+1) af;by_cases e:i=a
  .subst e;rw[aB af] at this;rw[aB rfl,az (rT _)];by_cases z:q=i
   .rw[cond_neg (by simp[z])];rw[aB z] at this;exact this
   .rw[cond_pos (by rw[lQ];omega),vk I,G,aB rfl,cC _ ai ai af];rw[az z] at this;exact this
  .rw[az e,cond_neg ai];have z:(if a<i+1 then(if q=a then[] else[(⟨(a:Int),(q:Int)⟩:dD)]) else[])=if a<i then(if q=a then[] else[⟨(a:Int),(q:Int)⟩]) else[]:=by
    by_cases h:a<i
    .rw[aB h,aB af]
    .rw[az h,az af]
   rw[z] at this;exact this
def lG (l:List Node):Gr:=⟨λx=>((l.map (·.bJ)).getD x []).map λa=>(a.bw,a.To.toNat),λx=>(l.map (·.cR)).getD x 0⟩
def lG0 (l:List Node):Gr:=⟨(lG l).sc,λ_=>0⟩
def c451 {F:Nat} {l:List Node} {lo a:Nat} (z:l.length<=1000000) (hF:F<=100000) (S:l.length *F<=300000000) (w:lo<=a) (G:a<l.length) (hA:∀x∈l,AW F l.length x.bJ):
  ∃out ty ar rep d,f451 l (Nx lo a (ids 0 l.length))=some out/\(∀x,x<l.length->out.getD x 0=(rep x:Nat))/\JI 1 (AW F l.length) sbT (lG0 l) l.length [(lo,a)] [] out ty ar rep d:=by
 have K:JI 1 (AW F l.length) sbT (lG0 l) l.length [] [] (ids 0 l.length) (replicate l.length 0) (l.map (·.bJ)) id (λ_=>0):=by
  have I:∀x,x<l.length->(replicate l.length (0:Int)).getD x 0=0:=λx q=>by rw[bA,nT,aB q];rfl
  refine JI.init (λ_ _=>trivial) rfl ai ai (λx q=> ?_) (λx q=> ?_) (λx q=>rfl) (λx q=>(I x q).symm)
  .rw[I x q];omega
  .rw[kP q];exact hA _ (bB q)
 have L:=K.start (a:=lo) (b:=a) af G;have D:=JI.swap (wt:=[]) L;have N:JI 1 (AW F l.length) sbT (lG0 l) l.length [(lo,a)] (if lo=a then[] else[⟨(a:Int),(lo:Int)⟩]) (ids 0 l.length) (replicate l.length 0) (l.map (·.bJ)) id (λ_=>0):=by
  by_cases e:lo=a
  .rw[aB e];exact JI.skip D (by simp[e])
  .rw[az e];exact D
 have R:=aa3 l.length id;have U:cnt l.length id *F<=l.length *F:=jS F R;have V:(if lo=a then[] else[(⟨(a:Int),(lo:Int)⟩:dD)]).length<=1:=by split<;>simp
 obtain⟨out,ar,rep,d,O,P,ty,Q⟩:=h451_11 z af (cnt l.length id) 1 0 (if lo=a then[] else[⟨(a:Int),(lo:Int)⟩]) (ids 0 l.length) (l.map (·.bJ)) id _ (aZ _) af af af (λx q=>J4 q) N;refine⟨out,ty,ar,rep,d,?_,P,Q⟩;refine e451 ?_;rw[c449 z,aj,bT ⟨af,by omega,by omega,af⟩,aT];have:=h451_5 z w G O l.length 0 af;rw[az af,zo,fI,dQ] at this;exact this
def c450 {n x y:Nat} (hn:n<=1000000) (w:x<n) (D:y<n):f450 (ids 0 n) x y=some (Nx (min x y:Nat) (max x y:Nat) (ids 0 n)):=by
 have l:∀{R:Type} {z:Nat} (q:Int->Option R),z<n->bf (ids 0 n) (z:Int) q=q z:=λq G=>by rw[vk (by rw[qI];exact G)];exact aU q (J4 G)
 refine e450 ?_;rw[l _ w,l _ D,l _ w,l _ D,cC _ ai (by rw[qI];omega) af,dQ];have e1:(if(y:Int)<(x:Int) then(y:Int) else(x:Int))=((min x y:Nat):Int):=by split<;>omega
 have I:(if(y:Int)>(x:Int) then(y:Int) else(x:Int))=((max x y:Nat):Int):=by split<;>omega
 rw[e1,I];exact h450 (ids 0 n) [] (by rw[qI];simp;omega)
